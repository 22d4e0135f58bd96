/- FnExactBounceBlocks holds: for every input the law returns true, and its arguments read as before. -/
import Derived.Test.YtokonabdnlckdaaGreatChecked
import Derived.KernelRfl
import Derived.Test.YtokonabdnlckdaaGreatRows
import Derived.WalkKit
import Derived.ProofKit
import Derived.OpenShut
import Derived.ShutString
import Derived.ChangeOld
import Derived.Below
import Derived.SizedLaws
import Derived.Test.YtokonabdnlckdaaGreatKernC
set_option linter.all false
set_option linter.unusedVariables false
section
namespace Go.Desk
open Go
def p2 (e:Int):Rat:=(2:Rat) ^ e
theorem p2_pos (e:Int):0<p2 e:=Rat.zpow_pos (by decide)
theorem p2_add (a b:Int):p2 (a+b)=p2 a * p2 b:=Rat.zpow_add (by decide) a b
theorem p2_zero:p2 0=1:=Rat.zpow_zero _
theorem p2_nat (n:Nat):p2 (n:Int)=((2 ^ n:Nat):Rat):=by
 induction n with
 | zero=>exact p2_zero
 | succ n ih =>
   rw[show ((n+1:Nat):Int)=(n:Int)+1 by omega,p2_add,ih,Nat.pow_succ,Rat.natCast_mul,show p2 1=(2:Rat) from Rat.zpow_one _]
   rfl
theorem p2_ge_one (n:Nat):1≤p2 (n:Int):=by
 rw[p2_nat]
 have:1≤2 ^ n:=Nat.one_le_two_pow
 exact_mod_cast this
theorem p2_le {a b:Int} (h:a≤b):p2 a≤p2 b:=by
 obtain ⟨n,hn⟩:=Int.eq_ofNat_of_zero_le (show 0≤b - a by omega)
 rw[show b=a+(n:Int) by omega,p2_add]
 have:=Rat.mul_le_mul_of_nonneg_left (p2_ge_one n) (Rat.le_of_lt (p2_pos a))
 rwa [Rat.mul_one] at this
theorem p2_lt {a b:Int} (h:a<b):p2 a<p2 b:=by
 have h1:p2 (a+1)≤p2 b:=p2_le (by omega)
 have h2:p2 (a+1)=p2 a * 2:=by rw[p2_add,show p2 1=(2:Rat) from Rat.zpow_one _]
 have h3:=p2_pos a
 grind
def mv (m:Nat) (e:Int):Rat:=(m:Rat) * p2 e
theorem mv_nonneg (m:Nat) (e:Int):0≤mv m e:=Rat.mul_nonneg (by exact_mod_cast Nat.zero_le m) (Rat.le_of_lt (p2_pos e))
theorem mv_zero (e:Int):mv 0 e=0:=by unfold mv;rw[show ((0:Nat):Rat)=0 from rfl,Rat.zero_mul]
theorem mv_shift (m k:Nat) (e:Int):mv (m * 2 ^ k) e=mv m (e+k):=by
 unfold mv
 rw[Rat.natCast_mul,p2_add,p2_nat]
 grind
theorem mv_le {m n:Nat} {e:Int}:mv m e≤mv n e↔m≤n:=by
 unfold mv
 constructor
 ·intro h
  have:=Rat.le_of_mul_le_mul_right h (p2_pos e)
  exact_mod_cast this
 ·intro h
  exact Rat.mul_le_mul_of_nonneg_right (by exact_mod_cast h) (Rat.le_of_lt (p2_pos e))
theorem mv_lt {m n:Nat} {e:Int}:mv m e<mv n e↔m<n:=by
 rw[← Rat.not_le,mv_le];omega
theorem mv_one (e:Int):mv 1 e=p2 e:=by unfold mv;rw[show ((1:Nat):Rat)=1 from rfl,Rat.one_mul]
theorem mv_pow (k:Nat) (e:Int):mv (2 ^ k) e=p2 (e+k):=by
 have:=mv_shift 1 k e
 rw[Nat.one_mul] at this
 rw[this,mv_one]
theorem cut_bounds (s:Bool) (n d B:Nat):(n≤B * 2 ^ d→Ieee.Toward.cut .even s n d≤B)∧(B * 2 ^ d≤n→B≤Ieee.Toward.cut .even s n d):=by
 unfold Ieee.Toward.cut
 simp only[Nat.shiftLeft_eq,Nat.one_mul]
 rcases Nat.lt_or_ge (n.log2+2) d with hd | hd
 ·rw[Nat.min_eq_right (Nat.le_of_lt hd)]
  have h1:n<2 ^ (n.log2+1):=Nat.lt_log2_self
  have h2:2 ^ (n.log2+2)=2 * 2 ^ (n.log2+1):=by rw[Nat.pow_succ];omega
  have h3:n<2 ^ (n.log2+2):=by omega
  rw[Nat.div_eq_of_lt h3,Nat.mod_eq_of_lt h3]
  have hm:(decide (2 ^ (n.log2+2)<2 * n)||(2 ^ (n.log2+2)==2 * n&&(0:Nat) % 2==1))=false:=by
   simp;omega
  rw[hm]
  constructor
  ·intro _;exact Nat.zero_le _
  ·intro h
   have h4:2 ^ (n.log2+2)≤2 ^ d:=Nat.pow_le_pow_right (by decide) (by omega)
   rcases Nat.eq_zero_or_pos B with rfl | hB
   ·exact Nat.zero_le _
   ·have:2 ^ d≤B * 2 ^ d:=Nat.le_mul_of_pos_left _ hB
    omega
 ·rw[Nat.min_eq_left hd]
  have hg:0<2 ^ d:=Nat.two_pow_pos d
  generalize 2 ^ d=g at hg ⊢
  have hn:g * (n / g)+n % g=n:=Nat.div_add_mod n g
  have hr:n % g<g:=Nat.mod_lt _ hg
  generalize hq:n / g=q at hn ⊢
  generalize hrr:n % g=r at hn hr ⊢
  constructor
  ·intro h
   cases hm:(decide (g<2 * r)||(g==2 * r&&q % 2==1))
   ·simp only[Bool.toNat_false,Nat.add_zero]
    have:g * q≤B * g:=by omega
    rw[Nat.mul_comm] at this
    exact Nat.le_of_mul_le_mul_right this hg
   ·simp only[Bool.toNat_true]
    have hr0:0<r:=by
     simp only[Bool.or_eq_true,decide_eq_true_eq,Bool.and_eq_true,beq_iff_eq] at hm
     omega
    have:g * q<g * B:=by rw[Nat.mul_comm g B];omega
    exact Nat.lt_of_mul_lt_mul_left this
  ·intro h
   have:B≤q:=by
    rw[← hq]
    exact (Nat.le_div_iff_mul_le hg).2 h
   omega
def sg (s:Bool) (v:Rat):Rat:=if s then -v else v
def fval (k:FloatKind) (x:Nat):Rat:=match k.decode x with
 | .number s m e=>sg s (mv m e)
 | _=>0
def Rep0 (k:FloatKind) (B:Rat):Prop:=∃ M P,M≤2 * k.format.binade∧k.format.leastPlace≤P∧B=mv M P
def topE:FloatKind→Int
 | .f32=>128
 | .f64=>1024
theorem fmt (k:FloatKind):∃ K:Nat,2≤K∧k.format.infRung=K * k.format.binade∧topE k=k.format.leastPlace+(k.format.fractionBits:Int)+(K:Int) - 1∧k.format.infRung<k.format.signWeight∧k.format.binade=2 ^ k.format.fractionBits:=by
 cases k
 ·exact ⟨255,by decide,by decide,by decide,by decide,rfl⟩
 ·exact ⟨2047,by decide,by decide,by decide,by decide,rfl⟩
theorem word_neg {f:Ieee.Format} {s:Bool} {r:Nat} (h:r<f.signWeight):(f.word s r / f.signWeight % 2==1)=s:=by
 have hp:0<f.signWeight:=by omega
 unfold Ieee.Format.word
 cases s
 ·simp[Nat.div_eq_of_lt h]
 ·simp only[if_true]
  rw[Nat.add_div_left _ hp,Nat.div_eq_of_lt h];rfl
theorem word_rung {f:Ieee.Format} {s:Bool} {r:Nat} (h:r<f.signWeight):f.word s r % f.signWeight=r:=by
 unfold Ieee.Format.word
 split
 ·rw[Nat.add_mod_left,Nat.mod_eq_of_lt h]
 ·rw[Nat.mod_eq_of_lt h]
theorem read_rung (k:FloatKind) (s:Bool) {j kept:Nat} (h1:kept≤2 * k.format.binade) (h2:0<j→k.format.binade≤kept) (h3:j * k.format.binade+kept<k.format.infRung) :
  ∃ m e,k.format.read (k.format.word s (j * k.format.binade+kept)) = .number s m e∧mv m e=mv kept (k.format.leastPlace+(j:Int))∧m≤2 * k.format.binade∧k.format.leastPlace≤e:=by
 obtain ⟨K,-,-,-,hw,hb⟩:=fmt k
 have hbp:0<k.format.binade:=by rw[hb];exact Nat.two_pow_pos _
 have hr:j * k.format.binade+kept<k.format.signWeight:=by omega
 unfold Ieee.Format.read
 simp only[word_neg hr,word_rung hr]
 generalize hbb:k.format.binade=b at *
 by_cases c1:j * b+kept<b
 ·rw[if_pos c1]
  have hj:j=0:=by
   rcases Nat.eq_zero_or_pos j with h | h
   ·exact h
   ·have:=Nat.le_mul_of_pos_left b h;omega
  subst hj
  refine ⟨_,_,rfl,?_,by omega,Int.le_refl _⟩
  rw[Nat.zero_mul,Nat.zero_add];simp
 ·rw[if_neg c1,if_pos h3]
  rcases Nat.lt_or_ge kept b with hk | hk
  ·rcases Nat.eq_zero_or_pos j with h | h
   ·subst h;omega
   ·have:=h2 h;omega
  ·rcases Nat.lt_or_ge kept (2 * b) with hk2 | hk2
   ·have e1:(j * b+kept) / b=j+1:=by
     rw[show j * b+kept=(kept - b)+b * (j+1) by rw[Nat.mul_add,Nat.mul_comm b j];omega,Nat.add_mul_div_left _ _ hbp,Nat.div_eq_of_lt (by omega)];omega
    have e2:(j * b+kept) % b=kept - b:=by
     rw[show j * b+kept=(kept - b)+b * (j+1) by rw[Nat.mul_add,Nat.mul_comm b j];omega,Nat.add_mul_mod_self_left,Nat.mod_eq_of_lt (by omega)]
    refine ⟨_,_,rfl,?_,by rw[e2];omega,by rw[e1];omega⟩
    rw[e1,e2,show b+(kept - b)=kept by omega,Nat.add_sub_cancel]
   ·have hk3:kept=2 * b:=by omega
    subst hk3
    have e1:(j * b+2 * b) / b=j+2:=by rw[← Nat.add_mul,Nat.mul_div_cancel _ hbp]
    have e2:(j * b+2 * b) % b=0:=by rw[← Nat.add_mul,Nat.mul_mod_left]
    refine ⟨_,_,rfl,?_,by rw[e2];omega,by rw[e1];omega⟩
    rw[e1,e2,Nat.add_zero,show (j+2 - 1:Nat)=j+1 by omega,show 2 * b=b * 2 ^ 1 by omega,mv_shift]
    congr 1;omega
theorem round_mag (k:FloatKind) (s:Bool) (m:Nat) (e:Int) {B0:Rat} (hB0:Rep0 k B0) (hv:mv m e≤B0) (hf:B0<p2 (topE k)) :
  ∃ m' e',k.format.read (k.format.nearest s m e) = .number s m' e'∧m'≤2 * k.format.binade∧k.format.leastPlace≤e'∧∀ B,Rep0 k B→(mv m e≤B→mv m' e'≤B)∧(B≤mv m e→B≤mv m' e'):=by
 obtain ⟨K,hK,hinf,htop,hw,hb⟩:=fmt k
 have hbp:0<k.format.binade:=by rw[hb];exact Nat.two_pow_pos _
 unfold Ieee.Format.nearest
 by_cases hm:m=0
 ·subst hm
  rw[if_pos rfl]
  have h3:0 * k.format.binade+0<k.format.infRung:=by rw[hinf,Nat.zero_mul,Nat.zero_add];exact Nat.mul_pos (by omega) hbp
  obtain ⟨m',e',r1,r2,r3,r4⟩:=read_rung k s (j:=0) (kept:=0) (Nat.zero_le _) (by omega) h3
  rw[Nat.zero_mul] at r1
  refine ⟨m',e',r1,r3,r4,fun B _ => ?_⟩
  rw[r2,mv_zero,mv_zero]
  exact ⟨id,id⟩
 rw[if_neg hm]
 generalize hla:max (e+(m.log2:Int) - (k.format.fractionBits:Int)) k.format.leastPlace=last
 have hl1:k.format.leastPlace≤last:=by omega
 have hl2:e+(m.log2:Int) - (k.format.fractionBits:Int)≤last:=by omega
 have hl3:last≠k.format.leastPlace→last=e+(m.log2:Int) - (k.format.fractionBits:Int):=by omega
 simp only
 generalize hn:m <<< (e - last).toNat=n
 generalize hd:(last - e).toNat=d
 have hval:mv n (last - (d:Int))=mv m e:=by
  rw[← hn,Nat.shiftLeft_eq,mv_shift]
  congr 1;omega
 have hlow:p2 (e+(m.log2:Int))≤mv m e:=by
  have:2 ^ m.log2≤m:=Nat.log2_self_le hm
  have h:=(mv_le (e:=e)).2 this
  rwa [mv_pow] at h
 have hhigh:mv m e<p2 (e+(m.log2:Int)+1):=by
  have:m<2 ^ (m.log2+1):=Nat.lt_log2_self
  have h:=(mv_lt (e:=e)).2 this
  rw[mv_pow] at h
  rw[show e+(m.log2:Int)+1=e+((m.log2+1:Nat):Int) by omega];exact h
 generalize hk:Ieee.Toward.cut .even s n d=kept
 have hcut:∀ B:Nat,(mv m e≤mv B last→mv kept last≤mv B last)∧(mv B last≤mv m e→mv B last≤mv kept last):=by
  intro B
  have hB:mv B last=mv (B * 2 ^ d) (last - (d:Int)):=by rw[mv_shift];congr 1;omega
  have:=cut_bounds s n d B
  rw[hk] at this
  rw[mv_le,mv_le]
  rw[← hval,hB,mv_le,mv_le]
  exact this
 have hkb:kept≤2 * k.format.binade:=by
  have h:=(hcut (2 * k.format.binade)).1 (by
   rw[hb,show 2 * 2 ^ k.format.fractionBits=2 ^ (k.format.fractionBits+1) by rw[Nat.pow_succ];omega,mv_pow]
   refine Rat.le_trans (Rat.le_of_lt hhigh) (p2_le ?_)
   omega)
  exact mv_le.1 h
 have hkl:last≠k.format.leastPlace→k.format.binade≤kept:=by
  intro h
  have h:=(hcut k.format.binade).2 (by
   rw[hb,mv_pow]
   refine Rat.le_trans (p2_le ?_) hlow
   have:=hl3 h
   omega)
  exact mv_le.1 h
 have key:∀ B,Rep0 k B→(mv m e≤B→mv kept last≤B)∧(B≤mv m e→B≤mv kept last):=by
  rintro B ⟨M,P,hM,hP,rfl⟩
  by_cases hPl:last≤P
  ·have hB:mv M P=mv (M * 2 ^ (P - last).toNat) last:=by rw[mv_shift];congr 1;omega
   rw[hB];exact hcut _
  ·have hl4:=hl3 (by omega)
   have hMB:mv M P≤mv k.format.binade last:=by
    refine Rat.le_trans (mv_le.2 hM) ?_
    rw[hb,show 2 * 2 ^ k.format.fractionBits=2 ^ (k.format.fractionBits+1) by rw[Nat.pow_succ];omega,mv_pow,mv_pow]
    exact p2_le (by omega)
   have hBm:mv k.format.binade last≤mv m e:=by
    rw[hb,mv_pow]
    exact Rat.le_trans (p2_le (by omega)) hlow
   constructor
   ·intro h
    have h1:mv m e≤mv k.format.binade last:=Rat.le_trans h hMB
    exact Rat.le_trans ((hcut _).1 h1) (Rat.le_trans hBm h)
   ·intro _
    exact Rat.le_trans hMB ((hcut _).2 hBm)
 have hfin:(last - k.format.leastPlace).toNat * k.format.binade+kept<k.format.infRung:=by
  rcases Nat.lt_or_ge ((last - k.format.leastPlace).toNat * k.format.binade+kept) k.format.infRung with h | h
  ·exact h
  ·exfalso
   have hR:mv kept last<p2 (topE k):=by
    have h1:=(key B0 hB0).1 hv
    grind
   rw[hinf] at h
   generalize hj:(last - k.format.leastPlace).toNat=j at h
   generalize hbb:k.format.binade=b at *
   have hj2:K≤j+2:=by
    rcases Nat.lt_or_ge (j+2) K with h' | h'
    ·have:(j+3) * b≤K * b:=Nat.mul_le_mul_right _ h'
     rw[Nat.add_mul] at this
     omega
    ·exact h'
   have hge:p2 (topE k)≤mv kept last:=by
    rcases Nat.lt_or_ge j (K - 1) with h' | h'
    ·have hj3:K=j+2:=by omega
     subst hj3
     rw[Nat.add_mul] at h
     have:kept=2 ^ (k.format.fractionBits+1):=by rw[Nat.pow_succ,← hb];omega
     rw[this,mv_pow]
     exact p2_le (by omega)
    ·have:mv (2 ^ k.format.fractionBits) last≤mv kept last:=mv_le.2 (by rw[← hb];exact hkl (by omega))
     refine Rat.le_trans ?_ this
     rw[mv_pow]
     exact p2_le (by omega)
   grind
 rw[Nat.min_eq_left (Nat.le_of_lt hfin)]
 obtain ⟨m',e',r1,r2,r3,r4⟩:=read_rung k s hkb (fun h=>hkl (by omega)) hfin
 refine ⟨m',e',r1,r3,r4,fun B hB => ?_⟩
 rw[r2,show k.format.leastPlace+((last - k.format.leastPlace).toNat:Int)=last by omega]
 exact key B hB
end Go.Desk
end
section
namespace Go.Desk
open Go
theorem mv_mul (a b:Nat) (e f:Int):mv (a * b) (e+f)=mv a e * mv b f:=by
 unfold mv;rw[Rat.natCast_mul,p2_add];grind
theorem rep_p2 (k:FloatKind) {e:Int} (h:k.format.leastPlace≤e):Rep0 k (p2 e):=⟨1,e,by cases k <;>decide,h,(mv_one e).symm⟩
theorem single_le {x:Nat} {s:Bool} {m:Nat} {e:Int} (h:FloatKind.f32.decode x = .number s m e):mv m e≤p2 128:=by
 obtain ⟨h1,-,h3⟩:=single_finite (x:=x) h
 have h4:mv m e≤mv (2 ^ 24) e:=mv_le.2 (by omega)
 rw[mv_pow] at h4
 exact Rat.le_trans h4 (p2_le (by omega))
theorem encode_le (k:FloatKind) {s:Bool} {m:Nat} {e E:Int} (h:mv m e≤p2 E) (h1:k.format.leastPlace≤E) (h2:E<topE k):∃ m' e',k.decode (k.encode (.number s m e)) = .number s m' e'∧mv m' e'≤p2 E:=by
 obtain ⟨m',e',r1,-,-,r4⟩:=round_mag k s m e (rep_p2 k h1) h (p2_lt h2)
 exact ⟨m',e',r1,(r4 _ (rep_p2 k h1)).1 h⟩
theorem fltToFlt_fits {k k':FloatKind} {x:Nat} {E:Int} (hk:k≠k') (h1:k'.format.leastPlace≤E) (h2:E<topE k') (h:∀ s m e,k.decode x = .number s m e→mv m e≤p2 E):∃ y,fltToFlt k x k'=some y:=by
 unfold fltToFlt
 rw[if_neg hk]
 cases hd:k.decode x with
 | nan s t=>exact ⟨_,rfl⟩
 | infinity s=>exact ⟨_,rfl⟩
 | number s m e =>
   obtain ⟨m',e',r1,-⟩:=encode_le k' (s:=s) (h s m e hd) h1 h2
   refine ⟨k'.encode (.number s m e),?_⟩
   simp only[r1,Ieee.Datum.isInfinity]
   rfl
end Go.Desk
end
section
namespace Go.Desk
open Go
def Rep (k:FloatKind) (B:Rat):Prop:=∃ s C,Rep0 k C∧B=sg s C
theorem sg_false (v:Rat):sg false v=v:=rfl
theorem sg_true (v:Rat):sg true v = -v:=rfl
theorem rep0_nonneg {k:FloatKind} {B:Rat} (h:Rep0 k B):0≤B:=by
 obtain ⟨M,P,-,-,rfl⟩:=h;exact mv_nonneg _ _
theorem Rep0.rep {k:FloatKind} {B:Rat} (h:Rep0 k B):Rep k B:=⟨false,B,h,rfl⟩
theorem Rep0.neg {k:FloatKind} {B:Rat} (h:Rep0 k B):Rep k (-B):=⟨true,B,h,rfl⟩
def Val (k:FloatKind) (x:Nat) (v:Rat):Prop:=∃ s m e,k.decode x = .number s m e∧v=sg s (mv m e)∧m≤2 * k.format.binade∧k.format.leastPlace≤e
theorem Val.rep {k:FloatKind} {x:Nat} {v:Rat} (h:Val k x v):Rep k v:=by
 obtain ⟨s,m,e,-,rfl,h1,h2⟩:=h
 exact ⟨s,_,⟨m,e,h1,h2,rfl⟩,rfl⟩
theorem Val.inj {k:FloatKind} {x:Nat} {v w:Rat} (h:Val k x v) (h':Val k x w):v=w:=by
 obtain ⟨s,m,e,h1,rfl,-⟩:=h
 obtain ⟨s',m',e',h2,rfl,-⟩:=h'
 rw[h1] at h2;cases h2;rfl
def Near (k:FloatKind) (v R:Rat):Prop:=∀ B,Rep k B→(v≤B→R≤B)∧(B≤v→B≤R)
theorem write_val (k:FloatKind) (s:Bool) (m:Nat) (e:Int) {B0:Rat} (hB0:Rep0 k B0) (hv:mv m e≤B0) (hf:B0<p2 (topE k)) :
  ∃ R,Val k (k.encode (.number s m e)) R∧Near k (sg s (mv m e)) R:=by
 obtain ⟨m',e',r1,r2,r3,r4⟩:=round_mag k s m e hB0 hv hf
 refine ⟨sg s (mv m' e'),⟨s,m',e',r1,rfl,r2,r3⟩,?_⟩
 rintro B ⟨t,C,hC,rfl⟩
 obtain ⟨c1,c2⟩:=r4 C hC
 have hC0:=rep0_nonneg hC
 have h0:=mv_nonneg m e
 have h0' :=mv_nonneg m' e'
 have hz:mv m e≤0→mv m' e'≤0:=by
  intro h
  have hz:Rep0 k 0:=⟨0,k.format.leastPlace,Nat.zero_le _,Int.le_refl _,(mv_zero _).symm⟩
  exact (r4 0 hz).1 h
 cases s <;>cases t <;>simp only[sg] <;>constructor <;>intro h <;>simp only[Bool.false_eq_true,if_false,if_true] at * <;>grind
theorem Val.near_eq {k:FloatKind} {x:Nat} {v R:Rat} (h:Val k x R) (hn:Near k v R) (hv:Rep k v):Val k x v:=by
 have h1:=(hn v hv).1 Rat.le_refl
 have h2:=(hn v hv).2 Rat.le_refl
 have:v=R:=by grind
 rw[this];exact h
theorem Val.num {k:FloatKind} {x:Nat} {v:Rat} (h:Val k x v):isNaN k x=false:=by
 obtain ⟨s,m,e,h1,-⟩:=h
 unfold isNaN;rw[h1];rfl
theorem signed_val (s:Bool) (m up:Nat) (b:Int):((Ieee.signed s m up:Int):Rat) * p2 b=sg s (mv m (b+(up:Int))):=by
 rw[← mv_shift]
 unfold Ieee.signed sg mv
 rw[Nat.shiftLeft_eq]
 cases s <;>simp only[Bool.false_eq_true,if_false,if_true]
 ·rw[Rat.intCast_natCast]
 ·rw[Rat.intCast_neg,Rat.intCast_natCast];grind
theorem total_val (t:Int) (c:Bool) (b:Int):sg (if t=0 then c else decide (t<0)) (mv t.natAbs b)=(t:Rat) * p2 b:=by
 by_cases h0:t=0
 ·subst h0
  rw[if_pos rfl]
  simp only[Int.natAbs_zero,mv_zero,sg,Rat.intCast_zero,Rat.zero_mul]
  cases c <;>simp
 ·rw[if_neg h0]
  by_cases h1:t<0
  ·rw[decide_eq_true h1]
   have:(t:Rat) = -((t.natAbs:Nat):Rat):=by rw[← Rat.intCast_natCast,← Rat.intCast_neg];congr 1;omega
   rw[this]
   simp only[sg,if_true,mv];grind
  ·rw[decide_eq_false h1]
   have:(t:Rat)=((t.natAbs:Nat):Rat):=by rw[← Rat.intCast_natCast];congr 1;omega
   rw[this]
   simp only[sg,Bool.false_eq_true,if_false,mv]
theorem rlt {a b c:Rat} (h1:a≤b) (h2:b<c):a<c:=by grind
theorem abs_le {s:Bool} {c B:Rat} (_:0≤c) (h1:sg s c≤B) (h2 : -B≤sg s c):c≤B:=by
 cases s <;>simp only[sg,Bool.false_eq_true,if_false,if_true] at * <;>grind
theorem add_val {k:FloatKind} {x y:Nat} {a b B:Rat} (hx:Val k x a) (hy:Val k y b) (hB:Rep0 k B) (hf:B<p2 (topE k)) (h1:a+b≤B) (h2 : -B≤a+b) :
  ∃ R,Val k (fadd k x y) R∧Near k (a+b) R:=by
 obtain ⟨s,m,i,e1,rfl,-⟩:=hx
 obtain ⟨t,n,j,e2,rfl,-⟩:=hy
 have e1:k.format.read x = .number s m i:=e1
 have e2:k.format.read y = .number t n j:=e2
 generalize hb:min i j=base
 generalize ht:Ieee.signed s m (i - base).toNat+Ieee.signed t n (j - base).toNat=total
 have hadd:fadd k x y=k.encode (.number (if total=0 then s&&t else total<0) total.natAbs base):=by
  simp only[fadd,Ieee.Format.add,e1,e2,Ieee.Datum.sum,Option.map_some,hb,ht]
  rfl
 have hval:sg (if total=0 then s&&t else decide (total<0)) (mv total.natAbs base)=sg s (mv m i)+sg t (mv n j):=by
  rw[total_val,← ht,Rat.intCast_add,Rat.add_mul,signed_val,signed_val]
  congr 2 <;>congr 1 <;>omega
 rw[hadd,← hval]
 exact write_val k _ _ _ hB (abs_le (mv_nonneg _ _) (by rw[hval];exact h1) (by rw[hval];exact h2)) hf
theorem mul_val {k:FloatKind} {x y:Nat} {a b B:Rat} (hx:Val k x a) (hy:Val k y b) (hB:Rep0 k B) (hf:B<p2 (topE k)) (h1:a * b≤B) (h2 : -B≤a * b) :
  ∃ R,Val k (fmul k x y) R∧Near k (a * b) R:=by
 obtain ⟨s,m,i,e1,rfl,-⟩:=hx
 obtain ⟨t,n,j,e2,rfl,-⟩:=hy
 have e1:k.format.read x = .number s m i:=e1
 have e2:k.format.read y = .number t n j:=e2
 have hmul:fmul k x y=k.encode (.number (s ^^ t) (m * n) (i+j)):=by
  simp only[fmul,Ieee.Format.mul,e1,e2,Ieee.Datum.product,Option.map_some]
  rfl
 have hval:sg (s ^^ t) (mv (m * n) (i+j))=sg s (mv m i) * sg t (mv n j):=by
  rw[mv_mul]
  cases s <;>cases t <;>simp[sg] <;>grind
 rw[hmul,← hval]
 exact write_val k _ _ _ hB (abs_le (mv_nonneg _ _) (by rw[hval];exact h1) (by rw[hval];exact h2)) hf
theorem order_val {k:FloatKind} {x y:Nat} {a b:Rat} (hx:Val k x a) (hy:Val k y b):(k.format.order x y=some .lt↔a<b)∧(k.format.order x y=some .eq↔a=b)∧(k.format.order x y=some .gt↔b<a):=by
 obtain ⟨s,m,i,e1,rfl,-⟩:=hx
 obtain ⟨t,n,j,e2,rfl,-⟩:=hy
 have e1:k.format.read x = .number s m i:=e1
 have e2:k.format.read y = .number t n j:=e2
 generalize hb:min i j=base
 have ha:sg s (mv m i)=((Ieee.signed s m (i - base).toNat:Int):Rat) * p2 base:=by rw[signed_val];congr 2;omega
 have hc:sg t (mv n j)=((Ieee.signed t n (j - base).toNat:Int):Rat) * p2 base:=by rw[signed_val];congr 2;omega
 rw[ha,hc]
 have ho:k.format.order x y=some (compare (Ieee.signed s m (i - base).toNat) (Ieee.signed t n (j - base).toNat)):=by
  simp only[Ieee.Format.order,e1,e2,Ieee.Datum.order,hb]
 rw[ho]
 generalize Ieee.signed s m (i - base).toNat=u
 generalize Ieee.signed t n (j - base).toNat=v
 have hlt:∀ p q:Int,(p:Rat) * p2 base<(q:Rat) * p2 base↔p<q:=fun p q=>by rw[Rat.mul_lt_mul_right (p2_pos _),Rat.intCast_lt_intCast]
 have heq:((u:Rat) * p2 base=(v:Rat) * p2 base)↔u=v:=by
  constructor
  ·intro h
   rcases Int.lt_trichotomy u v with h1 | h1 | h1
   ·have:=(hlt u v).2 h1;grind
   ·exact h1
   ·have:=(hlt v u).2 h1;grind
  ·rintro rfl;rfl
 rw[hlt,hlt,heq]
 have hc:(u<v∧compare u v = .lt)∨(u=v∧compare u v = .eq)∨(v<u∧compare u v = .gt):=by
  rcases Int.lt_trichotomy u v with h1 | h1 | h1
  ·exact .inl ⟨h1,by simp[compare,compareOfLessAndEq,h1]⟩
  ·subst h1;exact .inr (.inl ⟨rfl,by simp[compare,compareOfLessAndEq]⟩)
  ·exact .inr (.inr ⟨h1,by simp only[compare,compareOfLessAndEq];rw[if_neg (by omega),if_neg (by omega)]⟩)
 rcases hc with ⟨h,e⟩ | ⟨h,e⟩ | ⟨h,e⟩ <;>rw[e] <;>simp <;>omega
theorem flt_val {k:FloatKind} {x y:Nat} {a b:Rat} (hx:Val k x a) (hy:Val k y b):flt k x y=true↔a<b:=by
 rw[← (order_val hx hy).1];simp[flt]
theorem fgt_val {k:FloatKind} {x y:Nat} {a b:Rat} (hx:Val k x a) (hy:Val k y b):fgt k x y=true↔b<a:=by
 rw[← (order_val hx hy).2.2];simp[fgt]
theorem feq_val {k:FloatKind} {x y:Nat} {a b:Rat} (hx:Val k x a) (hy:Val k y b):feq k x y=true↔a=b:=by
 rw[← (order_val hx hy).2.1];simp[feq]
theorem fle_val {k:FloatKind} {x y:Nat} {a b:Rat} (hx:Val k x a) (hy:Val k y b):fle k x y=true↔a≤b:=by
 have h1:=(order_val hx hy).1
 have h2:=(order_val hx hy).2.1
 simp only[fle,Bool.or_eq_true,beq_iff_eq,h1,h2]
 grind
theorem fge_val {k:FloatKind} {x y:Nat} {a b:Rat} (hx:Val k x a) (hy:Val k y b):fge k x y=true↔b≤a:=by
 have h1:=(order_val hx hy).2.2
 have h2:=(order_val hx hy).2.1
 simp only[fge,Bool.or_eq_true,beq_iff_eq,h1,h2]
 grind
theorem cut_zero (s:Bool) (n d:Nat):Ieee.Toward.cut .zero s n d=n / 2 ^ d:=by
 unfold Ieee.Toward.cut
 simp only[Nat.shiftLeft_eq,Nat.one_mul,Bool.toNat_false,Nat.add_zero]
 rcases Nat.lt_or_ge (n.log2+2) d with hd | hd
 ·rw[Nat.min_eq_right (Nat.le_of_lt hd)]
  have h1:n<2 ^ (n.log2+1):=Nat.lt_log2_self
  have h2:2 ^ (n.log2+1)≤2 ^ (n.log2+2):=Nat.pow_le_pow_right (by decide) (by omega)
  have h3:2 ^ (n.log2+1)≤2 ^ d:=Nat.pow_le_pow_right (by decide) (by omega)
  rw[Nat.div_eq_of_lt (by omega),Nat.div_eq_of_lt (by omega)]
 ·rw[Nat.min_eq_left hd]
theorem toInt_nonneg {x:Nat} {a:Rat} {N:Nat} (hx:Val .f64 x a) (h0:0≤a) (h1:a<(N:Rat)) (hN:N≤9223372036854775807):∃ n:Nat,fltToInt .f64 x .i64=some (n:Int)∧n<N∧(n:Rat)≤a∧a<(n:Rat)+1:=by
 obtain ⟨s,m,i,e1,rfl,-⟩:=hx
 have hs:s=true→mv m i=0:=by
  intro h;subst h
  have:=mv_nonneg m i
  simp only[sg,if_true] at h0
  grind
 have hm:s=true→m=0:=by
  intro h
  have h2:=hs h
  rcases Nat.eq_zero_or_pos m with h3 | h3
  ·exact h3
  ·have:=mv_lt (e:=i) |>.2 h3
   rw[mv_zero] at this
   grind
 have hv:sg s (mv m i)=mv m i:=by
  cases s
  ·rfl
  ·rw[hs rfl];rfl
 rw[hv] at h0 h1 ⊢
 generalize hn:(m <<< i.toNat) / 2 ^ (-i).toNat=n
 have hkey:mv n 0≤mv m i∧mv m i<mv (n+1) 0:=by
  rcases Int.le_total 0 i with hi | hi
  ·have:(-i).toNat=0:=by omega
   rw[this,Nat.pow_zero,Nat.div_one,Nat.shiftLeft_eq] at hn
   have e:mv n 0=mv m i:=by rw[← hn,mv_shift];congr 1;omega
   rw[← e]
   exact ⟨Rat.le_refl,mv_lt.2 (by omega)⟩
  ·have h2:i.toNat=0:=by omega
   rw[h2,Nat.shiftLeft_zero] at hn
   generalize hd:(-i).toNat=d at hn
   have e:∀ q,mv q 0=mv (q * 2 ^ d) i:=fun q=>by rw[mv_shift];congr 1;omega
   rw[e,e,mv_le,mv_lt]
   have hg:0<2 ^ d:=Nat.two_pow_pos d
   have h3:=Nat.div_add_mod m (2 ^ d)
   have h4:=Nat.mod_lt m hg
   rw[hn,Nat.mul_comm] at h3
   rw[Nat.add_mul]
   omega
 have h2:∀ q:Nat,mv q 0=(q:Rat):=fun q=>by unfold mv;rw[p2_zero,Rat.mul_one]
 rw[h2,h2] at hkey
 have hnN:n<N:=by
  have:(n:Rat)<(N:Rat):=by grind
  exact_mod_cast this
 refine ⟨n,?_,hnN,hkey.1,by have:=hkey.2;rw[Rat.natCast_add] at this;exact this⟩
 unfold fltToInt
 simp only[Ieee.Datum.toInt,e1,Ieee.Datum.integral,cut_zero,hn]
 have hsg:Ieee.signed s n 0=(n:Int):=by
  unfold Ieee.signed
  cases s
  ·simp
  ·have:=hm rfl
   subst this
   have:n=0:=by rw[← hn];simp
   subst this;rfl
 rw[hsg]
 have h5:IntKind.min .i64 = -9223372036854775808:=by decide
 have h6:IntKind.max .i64=9223372036854775807:=by decide
 rw[if_pos (by rw[h5,h6];omega)]
theorem int_val {k:FloatKind} {n:Int} (hn:n.natAbs≤2 * k.format.binade):Val k (k.nearest n) (n:Rat):=by
 have hm:Rep0 k (mv n.natAbs 0):=⟨n.natAbs,0,hn,by cases k <;>decide,rfl⟩
 have hval:sg (decide (n<0)) (mv n.natAbs 0)=(n:Rat):=by
  have:=total_val n (decide (n<0)) 0
  rw[p2_zero,Rat.mul_one] at this
  rw[← this]
  congr 1
  by_cases h:n=0
  ·rw[if_pos h]
  ·rw[if_neg h]
 have hlt:mv n.natAbs 0<p2 (topE k):=by
  have h1:mv n.natAbs 0≤mv (2 * k.format.binade) 0:=mv_le.2 hn
  cases k
  ·exact rlt h1 (by rw[show 2 * FloatKind.f32.format.binade=2 ^ 24 by decide,mv_pow];exact p2_lt (by decide))
  ·exact rlt h1 (by rw[show 2 * FloatKind.f64.format.binade=2 ^ 53 by decide,mv_pow];exact p2_lt (by decide))
 obtain ⟨R,h1,h2⟩:=write_val k (decide (n<0)) n.natAbs 0 hm Rat.le_refl hlt
 have h3:Val k (k.nearest n) R:=h1
 rw[hval] at h2
 refine h3.near_eq h2 ⟨decide (n<0),_,hm,hval.symm⟩
theorem wide_val {x:Nat} {a:Rat} (h:Val .f32 x a):Val .f64 (wide x) a:=by
 obtain ⟨s,m,e,h1,rfl,h2,h3⟩:=h
 have h3' : -149≤e:=h3
 have h2':m≤16777216:=h2
 have hr:Rep0 .f64 (mv m e):=⟨m,e,Nat.le_trans h2' (by decide),(show (-1074:Int)≤e by omega),rfl⟩
 obtain ⟨R,r1,r2⟩:=write_val .f64 s m e hr Rat.le_refl (rlt (single_le h1) (p2_lt (by decide)))
 have hw:=fltToFlt_wide x
 unfold fltToFlt at hw
 rw[if_neg (by decide),h1] at hw
 obtain ⟨s',m',e',k1,-⟩:=(show Val _ _ _ from r1)
 have k2:FloatKind.f64.decode (FloatKind.f64.encode (.number s m e)) = .number s' m' e' :=k1
 simp only[k2,Ieee.Datum.isInfinity] at hw
 have hw:FloatKind.f64.encode (.number s m e)=wide x:=by simpa using hw
 rw[← hw]
 exact r1.near_eq r2 ⟨s,_,hr,rfl⟩
theorem near_sg {k:FloatKind} {Q v:Rat} (hQ:0≤Q) (hv:0≤v) (h:∀ C,Rep0 k C→(Q≤C→v≤C)∧(C≤Q→C≤v)) (s:Bool):Near k (sg s Q) (sg s v):=by
 rintro B ⟨t,C,hC,rfl⟩
 obtain ⟨c1,c2⟩:=h C hC
 have hC0:=rep0_nonneg hC
 have hz:Q≤0→v≤0:=(h 0 ⟨0,k.format.leastPlace,Nat.zero_le _,Int.le_refl _,(mv_zero _).symm⟩).1
 cases s <;>cases t <;>simp only[sg] <;>constructor <;>intro h <;>simp only[Bool.false_eq_true,if_false,if_true] at * <;>grind
theorem Near.trans {k:FloatKind} {a b c:Rat} (h:Near k a b) (h':Near k b c):Near k a c:=fun B hB=>⟨fun h1=>(h' B hB).1 ((h B hB).1 h1),fun h1=>(h' B hB).2 ((h B hB).2 h1)⟩
theorem quot_sides (k:FloatKind) {m n:Nat} {i j:Int} (hn:n≠0) {more q:Nat} {st:Bool} (hmore:k.format.fractionBits+2+n.log2≤more+m.log2) (hq:(m <<< more) / n=q) (hst:((m <<< more) % n != 0)=st) {C:Rat} (hC:Rep0 k C) :
  (mv m i≤C * mv n j→mv (2 * q+st.toNat) (i - j - more - 1)≤C)∧(C * mv n j≤mv m i→C≤mv (2 * q+st.toNat) (i - j - more - 1)):=by
 obtain ⟨-,-,-,-,-,hb⟩:=fmt k
 obtain ⟨M,P,hM,hP,rfl⟩:=hC
 generalize hu:i - j - (more:Int)=u
 rw[Nat.shiftLeft_eq] at hq hst
 generalize hdv:m * 2 ^ more=dv at hq hst
 have hmv:mv m i=mv dv (u+j):=by rw[← hdv,mv_shift];congr 1;omega
 have hdm:=Nat.div_add_mod dv n
 rw[hq] at hdm
 have hml:=Nat.mod_lt dv (Nat.pos_of_ne_zero hn)
 have hstr:(st=true→0<dv % n)∧(st=false→dv % n=0):=by
  rw[← hst]
  constructor <;>intro h <;>simp at h <;>omega
 have hst1:=Bool.toNat_le st
 have h2:∀ c,mv c u=mv (2 * c) (u - 1):=fun c=>by rw[show 2 * c=c * 2 ^ 1 by omega,mv_shift];congr 1;omega
 by_cases hPu:u≤P
 ·have hC:mv M P=mv (M * 2 ^ (P - u).toNat) u:=by rw[mv_shift];congr 1;omega
  rw[hC]
  generalize M * 2 ^ (P - u).toNat=M'
  rw[hmv,← mv_mul,mv_le,mv_le,h2 M',mv_le,mv_le]
  constructor
  ·intro h
   have h3:n * q≤n * M' :=by rw[Nat.mul_comm n M'];omega
   have h4:=Nat.le_of_mul_le_mul_left h3 (Nat.pos_of_ne_zero hn)
   cases st
   ·simp only[Bool.toNat_false];omega
   ·have h5:n * q<n * M' :=by rw[Nat.mul_comm n M'];have:=hstr.1 rfl;omega
    have h6:=Nat.lt_of_mul_lt_mul_left h5
    simp only[Bool.toNat_true];omega
  ·intro h
   have:M'≤q:=by
    rw[← hq];exact (Nat.le_div_iff_mul_le (Nat.pos_of_ne_zero hn)).2 h
   omega
 ·by_cases hm:m=0
  ·subst hm
   have hd0:dv=0:=by rw[← hdv,Nat.zero_mul]
   subst hd0
   have hq0:q=0:=by rw[← hq,Nat.zero_div]
   subst hq0
   have:st=false:=by rw[← hst];simp
   subst this
   simp only[Bool.toNat_false,Nat.mul_zero,Nat.add_zero,mv_zero]
   refine ⟨fun _=>mv_nonneg _ _,fun h => ?_⟩
   rcases Nat.eq_zero_or_pos M with h0 | h0
   ·subst h0;rw[mv_zero];exact Rat.le_refl
   ·exfalso
    rw[← mv_mul] at h
    have h5:mv 0 (P+j)<mv (M * n) (P+j):=mv_lt.2 (Nat.mul_pos h0 (Nat.pos_of_ne_zero hn))
    rw[mv_zero] at h5
    grind
  ·have hdl:2 ^ (k.format.fractionBits+2+n.log2)≤dv:=by
    have h3:2 ^ (m.log2+more)≤dv:=by
     rw[Nat.pow_add,← hdv]
     exact Nat.mul_le_mul_right _ (Nat.log2_self_le hm)
    exact Nat.le_trans (Nat.pow_le_pow_right (by decide) (by omega)) h3
   have hql:2 ^ (k.format.fractionBits+1)≤q:=by
    rw[← hq,Nat.le_div_iff_mul_le (Nat.pos_of_ne_zero hn)]
    have h4:n<2 ^ (n.log2+1):=Nat.lt_log2_self
    have h5:2 ^ (k.format.fractionBits+1) * n≤2 ^ (k.format.fractionBits+1) * 2 ^ (n.log2+1):=Nat.mul_le_mul_left _ (Nat.le_of_lt h4)
    rw[← Nat.pow_add,show k.format.fractionBits+1+(n.log2+1)=k.format.fractionBits+2+n.log2 by omega] at h5
    omega
   have hCu:mv M P≤mv (2 ^ k.format.fractionBits) u:=by
    refine Rat.le_trans (mv_le.2 hM) ?_
    rw[hb,show 2 * 2 ^ k.format.fractionBits=2 ^ (k.format.fractionBits+1) by rw[Nat.pow_succ];omega,mv_pow,mv_pow]
    exact p2_le (by omega)
   have hpw:2 ^ k.format.fractionBits<2 ^ (k.format.fractionBits+1):=by rw[Nat.pow_succ];have:=Nat.two_pow_pos k.format.fractionBits;omega
   have hle:mv M P≤mv (2 * q+st.toNat) (u - 1):=by
    refine Rat.le_trans hCu ?_
    rw[h2,mv_le];omega
   refine ⟨fun h => ?_,fun _=>hle⟩
   exfalso
   have h6:mv M P * mv n j≤mv (2 ^ k.format.fractionBits) u * mv n j:=Rat.mul_le_mul_of_nonneg_right hCu (mv_nonneg _ _)
   have h7:=Rat.le_trans h h6
   rw[hmv,← mv_mul,mv_le] at h7
   have h8:2 ^ (k.format.fractionBits+1) * n≤q * n:=Nat.mul_le_mul_right _ hql
   have h9:2 ^ k.format.fractionBits * n<2 ^ (k.format.fractionBits+1) * n:=Nat.mul_lt_mul_of_pos_right hpw (Nat.pos_of_ne_zero hn)
   rw[Nat.mul_comm q n] at h8
   omega
theorem div_val {k:FloatKind} {x y:Nat} {a b B:Rat} (hx:Val k x a) (hy:Val k y b) (hb:b≠0) (hB:Rep0 k B) (hf:B<p2 (topE k)) (h1:a / b≤B) (h2 : -B≤a / b) :
  ∃ R,Val k (fdiv k x y) R∧Near k (a / b) R:=by
 obtain ⟨s,m,i,e1,rfl,-⟩:=hx
 obtain ⟨t,n,j,e2,rfl,-⟩:=hy
 have e1:k.format.read x = .number s m i:=e1
 have e2:k.format.read y = .number t n j:=e2
 have hn:n≠0:=by
  rintro rfl
  apply hb
  rw[mv_zero];cases t <;>simp[sg]
 generalize hmo:k.format.fractionBits+2+n.log2 - m.log2=more
 generalize hq:(m <<< more) / n=q
 generalize hst:((m <<< more) % n != 0)=st
 have hdiv:fdiv k x y=k.encode (.number (s ^^ t) (2 * q+st.toNat) (i - j - more - 1)):=by
  simp only[fdiv,Ieee.Format.div,e1,e2,Ieee.Datum.quotient,if_neg hn,hmo,hq,hst,Option.map_some]
  rfl
 have hnp:0<mv n j:=by have:=(mv_lt (e:=j)).2 (Nat.pos_of_ne_zero hn);rwa [mv_zero] at this
 have hval:sg s (mv m i) / sg t (mv n j)=sg (s ^^ t) (mv m i / mv n j):=by
  cases s <;>cases t <;>simp[sg] <;>grind
 have hcan:mv m i / mv n j * mv n j=mv m i:=by rw[Rat.div_mul_cancel];grind
 have hQ:0≤mv m i / mv n j:=by
  have h3:=mv_nonneg m i
  rcases Rat.le_total (a:=0) (b:=mv m i / mv n j) with h | h
  ·exact h
  ·have h4:mv m i / mv n j * mv n j≤0 * mv n j:=Rat.mul_le_mul_of_nonneg_right h (Rat.le_of_lt hnp)
   rw[hcan,Rat.zero_mul] at h4
   have h5:mv m i=0:=by grind
   rw[h5,Rat.div_def,Rat.zero_mul];exact Rat.le_refl
 have hside:∀ C,Rep0 k C→(mv m i / mv n j≤C→mv (2 * q+st.toNat) (i - j - more - 1)≤C)∧(C≤mv m i / mv n j→C≤mv (2 * q+st.toNat) (i - j - more - 1)):=by
  intro C hC
  obtain ⟨c1,c2⟩:=quot_sides k (i:=i) (j:=j) hn (by omega) hq hst hC
  constructor
  ·intro h
   have:=Rat.mul_le_mul_of_nonneg_right h (Rat.le_of_lt hnp)
   rw[hcan] at this
   exact c1 this
  ·intro h
   have:=Rat.mul_le_mul_of_nonneg_right h (Rat.le_of_lt hnp)
   rw[hcan] at this
   exact c2 this
 rw[hval] at h1 h2 ⊢
 have hQB:=abs_le hQ h1 h2
 obtain ⟨R,r1,r2⟩:=write_val k (s ^^ t) (2 * q+st.toNat) (i - j - more - 1) hB ((hside B hB).1 hQB) hf
 rw[hdiv]
 exact ⟨R,r1,(near_sg hQ (mv_nonneg _ _) hside _).trans r2⟩
end Go.Desk
end
section
namespace Go.Desk
open Go
theorem read_val {k:FloatKind} {x:Nat} {s:Bool} {m:Nat} {e:Int} (h:k.decode x = .number s m e):Val k x (sg s (mv m e)):=by
 refine ⟨s,m,e,h,rfl,?_⟩
 obtain ⟨K,-,-,-,-,hb⟩:=fmt k
 have hbp:0<k.format.binade:=by rw[hb];exact Nat.two_pow_pos _
 have h:k.format.read x = .number s m e:=h
 unfold Ieee.Format.read at h
 by_cases c1:x % k.format.signWeight<k.format.binade
 ·simp only[if_pos c1] at h
  cases h
  exact ⟨by omega,Int.le_refl _⟩
 ·by_cases c2:x % k.format.signWeight<k.format.infRung
  ·simp only[if_neg c1,if_pos c2] at h
   cases h
   have:=Nat.mod_lt (x % k.format.signWeight) hbp
   exact ⟨by omega,by omega⟩
  ·by_cases c3:x % k.format.signWeight=k.format.infRung
   ·simp only[if_neg c1,if_neg c2,if_pos c3] at h;cases h
   ·simp only[if_neg c1,if_neg c2,if_neg c3] at h;cases h
theorem p2_one:p2 1=2:=Rat.zpow_one _
theorem val_one64:Val .f64 4607182418800017408 1:=by
 have:=read_val (k:=.f64) (x:=4607182418800017408) (s:=false) (m:=2 ^ 52) (e:=-52) (by decide)
 rwa [sg_false,mv_pow,show (-52:Int)+((52:Nat):Int)=0 by decide,p2_zero] at this
theorem val_one32:Val .f32 1065353216 1:=by
 have:=read_val (k:=.f32) (x:=1065353216) (s:=false) (m:=2 ^ 23) (e:=-23) (by decide)
 rwa [sg_false,mv_pow,show (-23:Int)+((23:Nat):Int)=0 by decide,p2_zero] at this
theorem repZ (k:FloatKind):Rep k 0:=⟨false,0,⟨0,k.format.leastPlace,Nat.zero_le _,Int.le_refl _,(mv_zero _).symm⟩,rfl⟩
end Go.Desk
end
section
namespace Go.Desk
open Go
theorem read_norm {k:FloatKind} {x:Nat} {s:Bool} {m:Nat} {e:Int} (h:k.decode x = .number s m e) :
  m<2 * k.format.binade∧k.format.leastPlace≤e∧(k.format.leastPlace<e→k.format.binade≤m)∧x % k.format.signWeight=(e - k.format.leastPlace).toNat * k.format.binade+m∧(x / k.format.signWeight % 2==1)=s:=by
 obtain ⟨K,-,-,-,-,hb⟩:=fmt k
 have hbp:0<k.format.binade:=by rw[hb];exact Nat.two_pow_pos _
 have h:k.format.read x = .number s m e:=h
 unfold Ieee.Format.read at h
 by_cases c1:x % k.format.signWeight<k.format.binade
 ·simp only[if_pos c1] at h
  cases h
  refine ⟨by omega,Int.le_refl _,fun h=>by omega,?_,rfl⟩
  rw[Int.sub_self];simp
 ·by_cases c2:x % k.format.signWeight<k.format.infRung
  ·simp only[if_neg c1,if_pos c2] at h
   cases h
   generalize x % k.format.signWeight=r at *
   generalize hbb:k.format.binade=b at *
   have h1:=Nat.mod_lt r hbp
   have h2:=Nat.div_add_mod r b
   have h3:1≤r / b:=(Nat.le_div_iff_mul_le hbp).2 (by omega)
   refine ⟨by omega,by omega,fun _=>by omega,?_,rfl⟩
   have h4:(k.format.leastPlace+((r / b - 1:Nat):Int) - k.format.leastPlace).toNat=r / b - 1:=by omega
   rw[h4]
   generalize r / b=q at *
   obtain ⟨q,rfl⟩:∃ p,q=p+1:=⟨q - 1,by omega⟩
   rw[Nat.mul_add] at h2
   rw[Nat.add_sub_cancel,Nat.mul_comm q b]
   omega
  ·by_cases c3:x % k.format.signWeight=k.format.infRung
   ·simp only[if_neg c1,if_neg c2,if_pos c3] at h;cases h
   ·simp only[if_neg c1,if_neg c2,if_neg c3] at h;cases h
theorem mv_norm {k:FloatKind} {m m':Nat} {e e':Int} (h1:m<2 * k.format.binade) (h1':m'<2 * k.format.binade) (h2:k.format.leastPlace≤e) (h2':k.format.leastPlace≤e') (h3:k.format.leastPlace<e→k.format.binade≤m) (h3':k.format.leastPlace<e'→k.format.binade≤m') (h:mv m e=mv m' e'):m=m'∧e=e' :=by
 have key:∀ {m m':Nat} {e e':Int},m<2 * k.format.binade→k.format.leastPlace≤e→(k.format.leastPlace<e'→k.format.binade≤m')→mv m e=mv m' e'→¬ e<e' :=by
  intro m m' e e' a1 a2 a3 a4 a5
  have e1:mv m' e'=mv (m' * 2 ^ (e' - e).toNat) e:=by rw[mv_shift];congr 1;omega
  rw[e1] at a4
  have h5:=mv_le.1 (show mv (m' * 2 ^ (e' - e).toNat) e≤mv m e by rw[a4];exact Rat.le_refl)
  have h6:=a3 (by omega)
  have h7:2 ^ 1≤2 ^ (e' - e).toNat:=Nat.pow_le_pow_right (by decide) (by omega)
  have h8:k.format.binade * 2≤m' * 2 ^ (e' - e).toNat:=Nat.mul_le_mul h6 h7
  omega
 have h4:=key h1 h2 h3' h
 have h5:=key h1' h2' h3 h.symm
 have he:e=e' :=by omega
 subst he
 refine ⟨?_,rfl⟩
 have h6:=mv_le.1 (show mv m e≤mv m' e by rw[h];exact Rat.le_refl)
 have h7:=mv_le.1 (show mv m' e≤mv m e by rw[h];exact Rat.le_refl)
 omega
theorem word_inj {k:FloatKind} {x y:Nat} {s:Bool} {m m':Nat} {e e':Int} (hx:x<2 * k.format.signWeight) (hy:y<2 * k.format.signWeight) (h:k.decode x = .number s m e) (h':k.decode y = .number s m' e') (hv:mv m e=mv m' e'):x=y:=by
 obtain ⟨a1,a2,a3,a4,a5⟩:=read_norm h
 obtain ⟨b1,b2,b3,b4,b5⟩:=read_norm h'
 obtain ⟨rfl,rfl⟩:=mv_norm a1 b1 a2 b2 a3 b3 hv
 have hp:0<k.format.signWeight:=by omega
 have h1:x % k.format.signWeight=y % k.format.signWeight:=by rw[a4,b4]
 have q1:x / k.format.signWeight<2:=(Nat.div_lt_iff_lt_mul hp).2 hx
 have q2:y / k.format.signWeight<2:=(Nat.div_lt_iff_lt_mul hp).2 hy
 rw[Nat.mod_eq_of_lt q1] at a5
 rw[Nat.mod_eq_of_lt q2] at b5
 have h2:x / k.format.signWeight=y / k.format.signWeight:=by
  have:(x / k.format.signWeight==1)=(y / k.format.signWeight==1):=by rw[a5,b5]
  generalize x / k.format.signWeight=p at *
  generalize y / k.format.signWeight=q at *
  rcases Nat.lt_or_ge p 1 with c1 | c1 <;>rcases Nat.lt_or_ge q 1 with c2 | c2
  ·omega
  ·obtain rfl:p=0:=by omega
   obtain rfl:q=1:=by omega
   cases this
  ·obtain rfl:p=1:=by omega
   obtain rfl:q=0:=by omega
   cases this
  ·omega
 rw[← Nat.div_add_mod x k.format.signWeight,← Nat.div_add_mod y k.format.signWeight,h1,h2]
theorem nearest_word (f:Ieee.Format) (s:Bool) (m:Nat) (e:Int):f.nearest s m e=f.word s (f.nearest false m e):=by
 unfold Ieee.Format.nearest
 by_cases hm:m=0
 ·rw[if_pos hm,if_pos hm];rfl
 ·rw[if_neg hm,if_neg hm];rfl
theorem nearest_pos_lt (k:FloatKind) (m:Nat) (e:Int):k.format.nearest false m e≤k.format.infRung:=by
 unfold Ieee.Format.nearest
 by_cases hm:m=0
 ·rw[if_pos hm];exact Nat.zero_le _
 ·rw[if_neg hm];exact Nat.min_le_right _ _
theorem word_lt (k:FloatKind) (s:Bool) {r:Nat} (h:r≤k.format.infRung):k.format.word s r<2 * k.format.signWeight:=by
 have:=infRung_lt k
 unfold Ieee.Format.word
 split <;>omega
theorem exact_write (k:FloatKind) (s:Bool) {m:Nat} {e:Int} (h:Rep0 k (mv m e)) (hf:mv m e<p2 (topE k)):∃ m' e',k.decode (k.encode (.number s m e)) = .number s m' e'∧mv m' e'=mv m e:=by
 obtain ⟨m',e',r1,-,-,r4⟩:=round_mag k s m e h Rat.le_refl hf
 obtain ⟨c1,c2⟩:=r4 _ h
 have h1:=c1 Rat.le_refl
 have h2:=c2 Rat.le_refl
 exact ⟨m',e',r1,by grind⟩
theorem wide_num {x:Nat} {s:Bool} {m:Nat} {e:Int} (h:FloatKind.f32.decode x = .number s m e):wide x=FloatKind.f64.encode (.number s m e)∧∃ m' e',FloatKind.f64.decode (wide x) = .number s m' e'∧mv m' e'=mv m e:=by
 obtain ⟨h1,h2,h3⟩:=single_finite (x:=x) h
 have hr:Rep0 .f64 (mv m e):=⟨m,e,Nat.le_trans (Nat.le_of_lt h1) (by decide),(show (-1074:Int)≤e by omega),rfl⟩
 obtain ⟨m',e',r1,r2⟩:=exact_write .f64 s hr (rlt (single_le h) (p2_lt (by decide)))
 have hw:=fltToFlt_wide x
 unfold fltToFlt at hw
 rw[if_neg (by decide),h] at hw
 simp only[r1,Ieee.Datum.isInfinity] at hw
 have hw:FloatKind.f64.encode (.number s m e)=wide x:=by simpa using hw
 rw[← hw]
 exact ⟨rfl,m',e',r1,r2⟩
theorem narrow_wide {x:Nat} (hx:x<4294967296) (hn:isNaN .f32 x=false):fltToFlt .f64 (wide x) .f32=some x:=by
 have hw:=fltToFlt_wide x
 unfold fltToFlt at hw
 rw[if_neg (by decide)] at hw
 cases hd:FloatKind.f32.decode x with
 | nan s t=>unfold isNaN at hn;rw[hd] at hn;cases hn
 | infinity s =>
   rw[hd] at hw
   simp only[Option.some.injEq] at hw
   rw[← hw]
   have hd:FloatKind.f32.format.read x = .infinity s:=hd
   have hxx:x=FloatKind.f32.encode (.infinity s):=by
    unfold Ieee.Format.read at hd
    by_cases c1:x % FloatKind.f32.format.signWeight<FloatKind.f32.format.binade
    ·simp only[if_pos c1] at hd;cases hd
    ·by_cases c2:x % FloatKind.f32.format.signWeight<FloatKind.f32.format.infRung
     ·simp only[if_neg c1,if_pos c2] at hd;cases hd
     ·by_cases c3:x % FloatKind.f32.format.signWeight=FloatKind.f32.format.infRung
      ·simp only[if_neg c1,if_neg c2,if_pos c3] at hd
       have hs:(x / FloatKind.f32.format.signWeight % 2==1)=s:=by cases hd;rfl
       have e1:FloatKind.f32.format.signWeight=2147483648:=rfl
       have e2:FloatKind.f32.format.infRung=2139095040:=rfl
       rw[e1] at c3 hs
       rw[e2] at c3
       cases s
       ·have:¬ (x / 2147483648 % 2=1):=by simpa using hs
        show x=2139095040
        omega
       ·have:x / 2147483648 % 2=1:=by simpa using hs
        show x=2147483648+2139095040
        omega
      ·simp only[if_neg c1,if_neg c2,if_neg c3] at hd;cases hd
   rw[hxx]
   cases s <;>rfl
 | number s m e =>
   obtain ⟨-,m',e',k1,k2⟩:=wide_num hd
   obtain ⟨h1,h2,h3⟩:=single_finite (x:=x) hd
   have hr:Rep0 .f32 (mv m' e'):=⟨m,e,Nat.le_trans (Nat.le_of_lt h1) (by decide),h2,k2⟩
   obtain ⟨m2,e2,r1,r2⟩:=exact_write .f32 s hr (by
    rw[k2]
    have h4:mv m e<mv (2 ^ 24) e:=mv_lt.2 h1
    rw[mv_pow] at h4
    have h5:p2 (e+((24:Nat):Int))≤p2 128:=p2_le (by omega)
    show mv m e<p2 128
    grind)
   unfold fltToFlt
   rw[if_neg (by decide),k1]
   simp only[r1,Ieee.Datum.isInfinity]
   have hz:FloatKind.f32.encode (.number s m' e')<2 * FloatKind.f32.format.signWeight:=by
    show FloatKind.f32.format.nearest s m' e'<_
    rw[nearest_word]
    exact word_lt _ _ (nearest_pos_lt _ _ _)
   have:=word_inj (k:=.f32) hz (show x<2 * FloatKind.f32.format.signWeight from hx) r1 hd (by rw[r2,k2])
   rw[this];simp
def size32 (x:Nat):Nat:=if isNaN .f32 x then qnan .f32 else x % 2147483648
theorem decode_size {x:Nat}:(∀ s m e,FloatKind.f32.decode x = .number s m e→FloatKind.f32.decode (x % 2147483648) = .number false m e)∧(∀ s,FloatKind.f32.decode x = .infinity s→FloatKind.f32.decode (x % 2147483648) = .infinity false):=by
 have hw:FloatKind.f32.format.signWeight=2147483648:=rfl
 have hr:x % 2147483648 % FloatKind.f32.format.signWeight=x % FloatKind.f32.format.signWeight:=by rw[hw,Nat.mod_mod]
 have hs:(x % 2147483648 / FloatKind.f32.format.signWeight % 2==1)=false:=by
  rw[hw,Nat.div_eq_of_lt (Nat.mod_lt _ (by decide))];rfl
 constructor
 ·intro s m e h
  have h:FloatKind.f32.format.read x = .number s m e:=h
  show FloatKind.f32.format.read (x % 2147483648)=_
  unfold Ieee.Format.read at h ⊢
  simp only[hr,hs]
  by_cases c1:x % FloatKind.f32.format.signWeight<FloatKind.f32.format.binade
  ·simp only[if_pos c1] at h ⊢;cases h;rfl
  ·by_cases c2:x % FloatKind.f32.format.signWeight<FloatKind.f32.format.infRung
   ·simp only[if_neg c1,if_pos c2] at h ⊢;cases h;rfl
   ·by_cases c3:x % FloatKind.f32.format.signWeight=FloatKind.f32.format.infRung
    ·simp only[if_neg c1,if_neg c2,if_pos c3] at h;cases h
    ·simp only[if_neg c1,if_neg c2,if_neg c3] at h;cases h
 ·intro s h
  have h:FloatKind.f32.format.read x = .infinity s:=h
  show FloatKind.f32.format.read (x % 2147483648)=_
  unfold Ieee.Format.read at h ⊢
  simp only[hr,hs]
  by_cases c1:x % FloatKind.f32.format.signWeight<FloatKind.f32.format.binade
  ·simp only[if_pos c1] at h;cases h
  ·by_cases c2:x % FloatKind.f32.format.signWeight<FloatKind.f32.format.infRung
   ·simp only[if_neg c1,if_pos c2] at h;cases h
   ·by_cases c3:x % FloatKind.f32.format.signWeight=FloatKind.f32.format.infRung
    ·simp only[if_neg c1,if_neg c2,if_pos c3]
    ·simp only[if_neg c1,if_neg c2,if_neg c3] at h;cases h
theorem word_mod64 (s:Bool) {r:Nat} (h:r≤FloatKind.f64.format.infRung):FloatKind.f64.format.word s r % 9223372036854775808=r:=by
 have h1:FloatKind.f64.format.infRung=9218868437227405312:=rfl
 have h2:FloatKind.f64.format.signWeight=9223372036854775808:=rfl
 unfold Ieee.Format.word
 rw[h2]
 rw[h1] at h
 split <;>omega
theorem wide_size {x:Nat} (hn:isNaN .f32 x=false):wide x % 9223372036854775808=wide (x % 2147483648)∧isNaN .f64 (wide x)=false∧wide x<18446744073709551616:=by
 have h2:(2 * FloatKind.f64.format.signWeight:Nat)=18446744073709551616:=rfl
 cases hd:FloatKind.f32.decode x with
 | nan s t=>unfold isNaN at hn;rw[hd] at hn;cases hn
 | infinity s =>
   have e1:∀ y t,FloatKind.f32.decode y = .infinity t→wide y=FloatKind.f64.encode (.infinity t):=by
    intro y t h
    have hw:=fltToFlt_wide y
    unfold fltToFlt at hw
    rw[if_neg (by decide),h] at hw
    simpa using hw.symm
   rw[e1 _ _ hd,e1 _ _ (decode_size.2 s hd)]
   cases s <;>refine ⟨by decide,by decide,by decide⟩
 | number s m e =>
   obtain ⟨w1,m',e',k1,-⟩:=wide_num hd
   obtain ⟨w2,-⟩:=wide_num (decode_size.1 s m e hd)
   refine ⟨?_,by unfold isNaN;rw[k1];rfl,?_⟩
   ·rw[w1,w2]
    show FloatKind.f64.format.nearest s m e % _=FloatKind.f64.format.nearest false m e
    rw[nearest_word,word_mod64 _ (nearest_pos_lt _ _ _)]
   ·rw[w1,← h2]
    show FloatKind.f64.format.nearest s m e<_
    rw[nearest_word]
    exact word_lt _ _ (nearest_pos_lt _ _ _)
theorem abs_size {x:Nat} (hx:x<4294967296) (hc:canon .f32 x=x) (n:Nat):xAbs (n+1) (wide x)=some (absF (wide x))∧fltToFlt .f64 (absF (wide x)) .f32=some (size32 x):=by
 cases hn:isNaN .f32 x
 ·obtain ⟨h1,h2,h3⟩:=wide_size hn
  refine ⟨by show (if wide x<18446744073709551616 then some (absF (wide x)) else none)=_;rw[if_pos h3],?_⟩
  have e1:absF (wide x)=wide (x % 2147483648):=by unfold absF;rw[h2,← h1];rfl
  have e2:size32 x=x % 2147483648:=by unfold size32;rw[hn];rfl
  rw[e1,e2]
  refine narrow_wide (by omega) ?_
  rw[isNaN_f32] at hn ⊢
  rw[Nat.mod_mod];exact hn
 ·have hq:x=qnan .f32:=by rw[← hc,canon_nan hn]
  subst hq
  refine ⟨?_,by decide +kernel⟩
  show (if wide (qnan .f32)<18446744073709551616 then some (absF (wide (qnan .f32))) else none)=_
  rw[if_pos (by decide +kernel)]
theorem val_zero (k:FloatKind):Val k 0 0:=by
 have h:k.decode 0 = .number false 0 k.format.leastPlace:=by cases k <;>decide
 have:=read_val h
 rwa [sg_false,mv_zero] at this
theorem neg_size {x:Nat} (hx:x<4294967296) (hn:isNaN .f32 x=false):(flt .f32 x 0=true→negF .f32 x=size32 x)∧(flt .f32 x 0=false→x=2147483648∨x=size32 x)∧negF .f32 2147483648=size32 2147483648:=by
 have hs:size32 x=x % 2147483648:=by unfold size32;rw[hn];rfl
 have hneg:2147483648≤x→negF .f32 x=x % 2147483648:=by
  intro h
  unfold negF
  rw[hn]
  show x ^^^ 2 ^ 31=_
  obtain ⟨y,rfl⟩:∃ y,x=2 ^ 31+y:=⟨x - 2147483648,by omega⟩
  have hy:y<2 ^ 31:=by omega
  rw[show 2 ^ 31+y=2 ^ 31 * 1+y by omega,Nat.two_pow_add_eq_or_of_lt hy,Nat.mul_one,show (2147483648:Nat)=2 ^ 31 from rfl]
  apply Nat.eq_of_testBit_eq
  intro i
  have hyi:31≤i→y.testBit i=false:=fun h=>Nat.testBit_lt_two_pow (Nat.lt_of_lt_of_le hy (Nat.pow_le_pow_right (by decide) h))
  rw[Nat.testBit_mod_two_pow,Nat.testBit_xor,Nat.testBit_or,Nat.testBit_two_pow]
  by_cases hi:31=i
  ·subst hi;simp[hyi]
  ·rcases Nat.lt_or_ge i 31 with h1 | h1
   ·simp[hi,h1]
   ·simp[hi,hyi h1]
 rw[hs]
 refine ⟨fun h => ?_,fun h => ?_,by decide⟩
 ·rcases Nat.lt_or_ge x 2147483648 with h1 | h1
  ·exfalso
   cases hd:FloatKind.f32.decode x with
   | nan s t=>unfold isNaN at hn;rw[hd] at hn;cases hn
   | infinity s =>
     have h2:=decode_size.2 s hd
     rw[Nat.mod_eq_of_lt h1] at h2
     have h2:FloatKind.f32.format.read x = .infinity false:=h2
     have h0:FloatKind.f32.format.read 0 = .number false 0 (-149):=by decide
     simp[flt,Ieee.Format.order,h2,h0,Ieee.Datum.order] at h
   | number s m e =>
     have h2:=decode_size.1 s m e hd
     rw[Nat.mod_eq_of_lt h1] at h2
     have:=(flt_val (read_val h2) (val_zero .f32)).1 h
     have h3:=mv_nonneg m e
     rw[sg_false] at this
     grind
  ·exact hneg h1
 ·rcases Nat.lt_or_ge x 2147483648 with h1 | h1
  ·right;omega
  ·left
   cases hd:FloatKind.f32.decode x with
   | nan s t=>unfold isNaN at hn;rw[hd] at hn;cases hn
   | infinity s =>
     exfalso
     have h0:FloatKind.f32.format.read 0 = .number false 0 (-149):=by decide
     have hd:FloatKind.f32.format.read x = .infinity s:=hd
     cases s
     ·have hd' :=hd
      unfold Ieee.Format.read at hd
      have hw:FloatKind.f32.format.signWeight=2147483648:=rfl
      have hq:(x / FloatKind.f32.format.signWeight % 2==1)=true:=by
       rw[hw]
       have:x / 2147483648=1:=by omega
       rw[this];rfl
      by_cases c1:x % FloatKind.f32.format.signWeight<FloatKind.f32.format.binade
      ·simp only[if_pos c1] at hd;cases hd
      ·by_cases c2:x % FloatKind.f32.format.signWeight<FloatKind.f32.format.infRung
       ·simp only[if_neg c1,if_pos c2] at hd;cases hd
       ·by_cases c3:x % FloatKind.f32.format.signWeight=FloatKind.f32.format.infRung
        ·simp only[if_neg c1,if_neg c2,if_pos c3,hq] at hd;cases hd
        ·simp only[if_neg c1,if_neg c2,if_neg c3] at hd;cases hd
     ·simp[flt,Ieee.Format.order,hd,h0,Ieee.Datum.order] at h
   | number s m e =>
     obtain ⟨a1,a2,a3,a4,a5⟩:=read_norm hd
     have hw:FloatKind.f32.format.signWeight=2147483648:=rfl
     rw[hw] at a4 a5
     have hq:x / 2147483648=1:=by omega
     rw[hq] at a5
     have hst:s=true:=by rw[← a5];rfl
     subst hst
     rcases Nat.eq_zero_or_pos m with h2 | h2
     ·subst h2
      have h5:e=FloatKind.f32.format.leastPlace:=by
       rcases Int.lt_or_le FloatKind.f32.format.leastPlace e with h6 | h6
       ·have:=a3 h6
        have:FloatKind.f32.format.binade=8388608:=rfl
        omega
       ·omega
      rw[h5,Int.sub_self] at a4
      simp at a4
      omega
     ·exfalso
      have h3:flt .f32 x 0=true:=by
       rw[flt_val (read_val hd) (val_zero .f32)]
       have:=mv_lt (e:=e) |>.2 h2
       rw[mv_zero] at this
       rw[sg_true];grind
      rw[h3] at h;cases h
theorem size_nan {x:Nat} (hn:isNaN .f32 x=true):size32 x=qnan .f32:=by unfold size32;rw[hn];rfl
theorem fne_nan (k:FloatKind) (x:Nat):fne k x x=isNaN k x:=by
 rw[fne_feq]
 cases h:isNaN k x
 ·rw[feq_self h];rfl
 ·obtain ⟨s,t,e⟩:=nan_read h
  simp[feq,Ieee.Format.order,e,Ieee.Datum.order]
theorem flt_nan {k:FloatKind} {x:Nat} (y:Nat) (h:isNaN k x=true):flt k x y=false:=by
 obtain ⟨s,t,e⟩:=nan_read h
 simp[flt,Ieee.Format.order,e,Ieee.Datum.order]
theorem GoodF.lt32 {x:Nat} (h:GoodF .f32 x):x<4294967296:=by
 have:=h.2
 simpa [Lit.wf] using this
end Go.Desk
end
section
namespace Go.Desk
open Go
theorem br_t {α:Type} (x y:Option α):br true x y=x:=rfl
theorem br_f {α:Type} (x y:Option α):br false x y=y:=rfl
theorem gd_t {α:Type} (x:Option α):gd true x=x:=rfl
theorem bd_s {α β:Type} (a:α) (k:α→Option β):bd (some a) k=k a:=rfl
theorem sm_l {A B γ:Type} (a:A) (f:A→γ) (g:B→γ):sm (.inl a) f g=f a:=rfl
theorem sm_r {A B γ:Type} (a:B) (f:A→γ) (g:B→γ):sm (.inr a) f g=g a:=rfl
theorem br_not {α:Type} (b:Bool) (x y:Option α):br (!b) x y=br b y x:=by cases b <;>rfl
section
variable {p zs:List Nat} {z:Nat} {k:FloatKind}
theorem fAt_mid:fAt (fls k (p++z::zs)) p.length=z:=by simp[fAt_fls,List.getD]
theorem okAt_mid:okAt [.flt k] (fls k (p++z::zs)) p.length=true:=okAt_fls (by simp)
theorem toNat_len {α:Type} (p:List α):((p.length:Nat):Int).toNat=p.length:=rfl
end
section
variable {p zs:List Int} {z:Int} {k:IntKind}
end
section
variable {α:Type} {p zs:List α} {z:α}
theorem lt_mid:decide ((p.length:Int)<((p++z::zs).length:Int))=true:=by simp;omega
theorem in_mid:decide ((0:Int)≤(p.length:Int)∧(p.length:Int)<((p++z::zs).length:Int))=true:=by simp;omega
theorem lt_end:decide ((p.length:Int)<((p++[]).length:Int))=false:=by simp
theorem wrap_len (h:p.length<4611686018427387904):IntKind.i64.wrap ((p.length:Int)+1)=(((p++[z]).length:Nat):Int):=by rw[wrap_succ (by omega)];simp
theorem push_ok (h:p.length<2147483648):Nat.ble (p.length+1) 2147483648=true:=by rw[Nat.ble_eq];omega
theorem push_len:p.length+1=(p++[z]).length:=by simp
end
theorem push_fls (k:FloatKind) (p:List Nat) (y:Nat):fls k p++setN (reps 1 [T.flt k 0]) 0 [T.flt k y]=fls k (p++[y]):=by simp[fls,setN,reps]
theorem push_its (k:IntKind) (p:List Int) (y:Int):its k p++setN (reps 1 [T.int k 0]) 0 [T.int k y]=its k (p++[y]):=by simp[its,setN,reps]
theorem fls_take (k:FloatKind) (xs:List Nat) (i:Nat):(fls k xs).take i=fls k (xs.take i):=by simp[fls,List.map_take]
theorem fls_drop (k:FloatKind) (xs:List Nat) (i:Nat):(fls k xs).drop i=fls k (xs.drop i):=by simp[fls,List.map_drop]
def W32 (x:Nat):Prop:=x<4294967296∧canon .f32 x=x
theorem GoodF.w32 {x:Nat} (h:GoodF .f32 x):W32 x:=⟨h.lt32,h.1⟩
theorem w32_qnan:W32 (qnan .f32):=⟨by decide,by decide⟩
theorem write_lt (k:FloatKind) {d:Ieee.Datum} (h:∀ s t,d ≠ .nan s t):k.format.write d<2 * k.format.signWeight:=by
 cases d with
 | nan s t=>exact absurd rfl (h s t)
 | infinity s=>exact word_lt k s (Nat.le_refl _)
 | number s m e =>
   show k.format.nearest s m e<_
   rw[nearest_word]
   exact word_lt k s (nearest_pos_lt k m e)
theorem w32_write {d:Ieee.Datum} (h:∀ s t,d ≠ .nan s t):W32 (FloatKind.f32.format.write d):=⟨write_lt .f32 h,canon_num (write_num h)⟩
theorem w32_fadd (x y:Nat):W32 (fadd .f32 x y):=by
 unfold fadd Ieee.Format.add
 cases h:(FloatKind.f32.format.read x).sum (FloatKind.f32.format.read y) with
 | none=>exact w32_qnan
 | some d=>exact w32_write (fun s t e=>sum_not_nan h s t e)
theorem w32_fsub (x y:Nat):W32 (fsub .f32 x y):=by
 unfold fsub Ieee.Format.sub
 cases h:(FloatKind.f32.format.read x).sum (FloatKind.f32.format.read y).opposite with
 | none=>exact w32_qnan
 | some d=>exact w32_write (fun s t e=>sum_not_nan h s t e)
theorem w32_fmul (x y:Nat):W32 (fmul .f32 x y):=by
 unfold fmul Ieee.Format.mul
 cases h:(FloatKind.f32.format.read x).product (FloatKind.f32.format.read y) with
 | none=>exact w32_qnan
 | some d=>exact w32_write (fun s t e=>product_not_nan h s t e)
theorem w32_fdiv (x y:Nat):W32 (fdiv .f32 x y):=by
 unfold fdiv Ieee.Format.div
 cases h:(FloatKind.f32.format.read x).quotient (FloatKind.f32.format.fractionBits+2) (FloatKind.f32.format.read y) with
 | none=>exact w32_qnan
 | some d=>exact w32_write (fun s t e=>quotient_not_nan h s t e)
theorem w32_zero:W32 0:=⟨by decide,by decide⟩
theorem u32_wrap {i:Int} (h0:0≤i) (h1:i<4294967296):IntKind.u32.wrap i=i:=by
 rw[show IntKind.u32.wrap i=i % 4294967296 by simp[IntKind.wrap,IntKind.bits,IntKind.signed]]
 omega
def Plain (x:Nat):Prop:=∃ m:Int,(-64≤m∧m≤64)∧(x=fdiv .f32 (FloatKind.f32.nearest m) 1088421888∨x=fdiv .f32 (FloatKind.f32.nearest m) 1098907648)
theorem Plain.w32 {x:Nat} (h:Plain x):W32 x:=by
 obtain ⟨m,-,rfl | rfl⟩:=h <;>exact w32_fdiv _ _
section
variable {σ α β:Type}
def scan (f:σ→α→β × σ):σ→List α→List β × σ
 | s,[]=>([],s)
 | s,x::xs=>((f s x).1::(scan f (f s x).2 xs).1,(scan f (f s x).2 xs).2)
theorem scan_append (f:σ→α→β × σ):∀ (s:σ) (xs ys:List α),scan f s (xs++ys)=((scan f s xs).1++(scan f (scan f s xs).2 ys).1,(scan f (scan f s xs).2 ys).2)
 | s,[],ys=>rfl
 | s,x::xs,ys=>by simp only[List.cons_append,scan,scan_append f _ xs ys]
theorem scan_length (f:σ→α→β × σ):∀ (s:σ) (xs:List α),(scan f s xs).1.length=xs.length
 | s,[]=>rfl
 | s,x::xs=>by simp only[scan,List.length_cons,scan_length f _ xs]
end
end Go.Desk
end
section
namespace Go.Desk
open Go
def magOf (k:FloatKind) (x:Nat):Nat:=x % k.format.signWeight
def negOf (k:FloatKind) (x:Nat):Bool:=x / k.format.signWeight % 2==1
def key (k:FloatKind) (x:Nat):Int:=if negOf k x then -(magOf k x:Int) else (magOf k x:Int)
theorem binade_pos (k:FloatKind):0<k.format.binade:=by cases k <;>decide
theorem read_inf {k:FloatKind} {x:Nat} {s:Bool} (h:k.decode x = .infinity s):magOf k x=k.format.infRung∧negOf k x=s:=by
 have h:k.format.read x = .infinity s:=h
 unfold Ieee.Format.read at h
 by_cases c1:x % k.format.signWeight<k.format.binade
 ·simp only[if_pos c1] at h;cases h
 ·by_cases c2:x % k.format.signWeight<k.format.infRung
  ·simp only[if_neg c1,if_pos c2] at h;cases h
  ·by_cases c3:x % k.format.signWeight=k.format.infRung
   ·simp only[if_neg c1,if_neg c2,if_pos c3] at h;cases h;exact ⟨c3,rfl⟩
   ·simp only[if_neg c1,if_neg c2,if_neg c3] at h;cases h
theorem read_fin {k:FloatKind} {x:Nat} {s:Bool} {m:Nat} {e:Int} (h:k.decode x = .number s m e):magOf k x<k.format.infRung∧negOf k x=s:=by
 refine ⟨?_,(read_norm h).2.2.2.2⟩
 have h:k.format.read x = .number s m e:=h
 unfold Ieee.Format.read at h
 have hb:k.format.binade<k.format.infRung:=by cases k <;>decide
 by_cases c1:x % k.format.signWeight<k.format.binade
 ·unfold magOf;omega
 ·by_cases c2:x % k.format.signWeight<k.format.infRung
  ·exact c2
  ·by_cases c3:x % k.format.signWeight=k.format.infRung
   ·simp only[if_neg c1,if_neg c2,if_pos c3] at h;cases h
   ·simp only[if_neg c1,if_neg c2,if_neg c3] at h;cases h
theorem mag_lt {k:FloatKind} {x y:Nat} {s t:Bool} {m n:Nat} {i j:Int} (h:k.decode x = .number s m i) (h':k.decode y = .number t n j) (hl:magOf k x<magOf k y):mv m i<mv n j:=by
 obtain ⟨a1,a2,a3,a4,-⟩:=read_norm h
 obtain ⟨b1,b2,b3,b4,-⟩:=read_norm h'
 unfold magOf at hl
 rw[a4,b4] at hl
 have hB:=binade_pos k
 generalize k.format.binade=B at *
 generalize k.format.leastPlace=L at *
 rcases Int.lt_trichotomy i j with hij | rfl | hij
 ·have e1:mv n j=mv (n * 2 ^ (j - i).toNat) i:=by rw[mv_shift];congr 1;omega
  rw[e1,mv_lt]
  have h6:=b3 (by omega)
  have h7:2 ^ 1≤2 ^ (j - i).toNat:=Nat.pow_le_pow_right (by decide) (by omega)
  have h8:B * 2≤n * 2 ^ (j - i).toNat:=Nat.mul_le_mul h6 h7
  omega
 ·rw[mv_lt];omega
 ·exfalso
  have h6:=a3 (by omega)
  have:(i - L).toNat=(j - L).toNat+(i - j).toNat:=by omega
  rw[this,Nat.add_mul] at hl
  have:B≤(i - j).toNat * B:=Nat.le_mul_of_pos_left B (by omega)
  omega
theorem mag_eq {k:FloatKind} {x y:Nat} {s t:Bool} {m n:Nat} {i j:Int} (h:k.decode x = .number s m i) (h':k.decode y = .number t n j) (hl:magOf k x=magOf k y):mv m i=mv n j:=by
 obtain ⟨a1,a2,a3,a4,-⟩:=read_norm h
 obtain ⟨b1,b2,b3,b4,-⟩:=read_norm h'
 unfold magOf at hl
 rw[a4,b4] at hl
 have hB:=binade_pos k
 generalize k.format.binade=B at *
 generalize k.format.leastPlace=L at *
 have:i=j:=by
  rcases Int.lt_trichotomy i j with hij | e | hij
  ·exfalso
   have h6:=b3 (by omega)
   have:(j - L).toNat=(i - L).toNat+(j - i).toNat:=by omega
   rw[this,Nat.add_mul] at hl
   have:B≤(j - i).toNat * B:=Nat.le_mul_of_pos_left B (by omega)
   omega
  ·exact e
  ·exfalso
   have h6:=a3 (by omega)
   have:(i - L).toNat=(j - L).toNat+(i - j).toNat:=by omega
   rw[this,Nat.add_mul] at hl
   have:B≤(i - j).toNat * B:=Nat.le_mul_of_pos_left B (by omega)
   omega
 subst this
 have:m=n:=by omega
 rw[this]
theorem mag_zero {k:FloatKind} {x:Nat} {s:Bool} {m:Nat} {i:Int} (h:k.decode x = .number s m i):(magOf k x=0↔mv m i=0):=by
 obtain ⟨a1,a2,a3,a4,-⟩:=read_norm h
 have hB:=binade_pos k
 unfold magOf
 rw[a4]
 constructor
 ·intro h0
  have:m=0:=by omega
  rw[this,mv_zero]
 ·intro h0
  have hm:m=0:=by
   rcases Nat.eq_zero_or_pos m with e | e
   ·exact e
   ·have h1:mv 0 i<mv m i:=mv_lt.2 e
    rw[mv_zero,h0] at h1
    exact absurd h1 (by decide)
  subst hm
  have:¬ k.format.leastPlace<i:=fun h1=>by have:=a3 h1;omega
  have:(i - k.format.leastPlace).toNat=0:=by omega
  rw[this];simp
theorem compare_int (a b:Int):(a<b∧compare a b = .lt)∨(a=b∧compare a b = .eq)∨(b<a∧compare a b = .gt):=by
 rcases Int.lt_trichotomy a b with h1 | h1 | h1
 ·exact .inl ⟨h1,by simp[compare,compareOfLessAndEq,h1]⟩
 ·subst h1;exact .inr (.inl ⟨rfl,by simp[compare,compareOfLessAndEq]⟩)
 ·exact .inr (.inr ⟨h1,by simp only[compare,compareOfLessAndEq];rw[if_neg (by omega),if_neg (by omega)]⟩)
theorem key_lt_val {k:FloatKind} {x y:Nat} {s t:Bool} {m n:Nat} {i j:Int} (h:k.decode x = .number s m i) (h':k.decode y = .number t n j) (hl:key k x<key k y):sg s (mv m i)<sg t (mv n j):=by
 have hs:=(read_fin h).2
 have ht:=(read_fin h').2
 unfold key at hl
 rw[hs,ht] at hl
 have z1:=mag_zero h
 have z2:=mag_zero h'
 have p1:=mv_nonneg m i
 have p2:=mv_nonneg n j
 cases s <;>cases t <;>simp only[Bool.false_eq_true,if_false,if_true,sg] at hl ⊢
 ·exact mag_lt h h' (by omega)
 ·omega
 ·rcases Nat.eq_zero_or_pos (magOf k y) with e | e
  ·have:0<magOf k x:=by omega
   have:mv m i≠0:=fun h0=>by rw[z1.2 h0] at this;omega
   have h0:=z2.1 e
   rw[h0];grind
  ·have:mv n j≠0:=fun h0=>by rw[z2.2 h0] at e;omega
   grind
 ·have:=mag_lt h' h (by omega)
  grind
theorem key_eq_val {k:FloatKind} {x y:Nat} {s t:Bool} {m n:Nat} {i j:Int} (h:k.decode x = .number s m i) (h':k.decode y = .number t n j) (hl:key k x=key k y):sg s (mv m i)=sg t (mv n j):=by
 have hs:=(read_fin h).2
 have ht:=(read_fin h').2
 unfold key at hl
 rw[hs,ht] at hl
 have z1:=mag_zero h
 have z2:=mag_zero h'
 cases s <;>cases t <;>simp only[Bool.false_eq_true,if_false,if_true,sg] at hl ⊢
 ·exact mag_eq h h' (by omega)
 ·rw[z1.1 (by omega),z2.1 (by omega)];rfl
 ·rw[z1.1 (by omega),z2.1 (by omega)];rfl
 ·rw[mag_eq h h' (by omega)]
theorem order_key {k:FloatKind} {x y:Nat} (hx:isNaN k x=false) (hy:isNaN k y=false):k.format.order x y=some (compare (key k x) (key k y)):=by
 have inf_pos:∀ {z:Nat} {s:Bool},k.decode z = .infinity s→key k z=if s then -(k.format.infRung:Int) else (k.format.infRung:Int):=by
  intro z s h
  obtain ⟨h1,h2⟩:=read_inf h
  unfold key;rw[h1,h2]
 have fin_lt:∀ {z:Nat} {s:Bool} {m:Nat} {e:Int},k.decode z = .number s m e → -(k.format.infRung:Int)<key k z∧key k z<(k.format.infRung:Int):=by
  intro z s m e h
  obtain ⟨h1,h2⟩:=read_fin h
  unfold key;rw[h2]
  cases s <;>simp only[Bool.false_eq_true,if_false,if_true] <;>omega
 have hI:(0:Int)<(k.format.infRung:Int):=by cases k <;>decide
 have lt_c:∀ a b:Int,a<b→compare a b = .lt:=fun a b h=>by rcases compare_int a b with ⟨h1,e⟩ | ⟨h1,e⟩ | ⟨h1,e⟩ <;>first | exact e | omega
 have gt_c:∀ a b:Int,b<a→compare a b = .gt:=fun a b h=>by rcases compare_int a b with ⟨h1,e⟩ | ⟨h1,e⟩ | ⟨h1,e⟩ <;>first | exact e | omega
 have eq_c:∀ a b:Int,a=b→compare a b = .eq:=fun a b h=>by rcases compare_int a b with ⟨h1,e⟩ | ⟨h1,e⟩ | ⟨h1,e⟩ <;>first | exact e | omega
 unfold isNaN at hx hy
 cases h1:k.decode x with
 | nan s f=>rw[h1] at hx;simp[Ieee.Datum.isNaN] at hx
 | infinity s =>
   cases h2:k.decode y with
   | nan s f=>rw[h2] at hy;simp[Ieee.Datum.isNaN] at hy
   | infinity t =>
     have e1:k.format.read x = .infinity s:=h1
     have e2:k.format.read y = .infinity t:=h2
     simp only[Ieee.Format.order,e1,e2,Ieee.Datum.order]
     rw[inf_pos h1,inf_pos h2]
     cases s <;>cases t <;>simp only[Bool.false_eq_true,if_false,if_true]
     ·rw[eq_c _ _ rfl];rfl
     ·rw[gt_c _ _ (by omega)];rfl
     ·rw[lt_c _ _ (by omega)];rfl
     ·rw[eq_c _ _ rfl];rfl
   | number t n j =>
     have e1:k.format.read x = .infinity s:=h1
     have e2:k.format.read y = .number t n j:=h2
     have:=fin_lt h2
     simp only[Ieee.Format.order,e1,e2,Ieee.Datum.order]
     rw[inf_pos h1]
     cases s <;>simp only[Bool.false_eq_true,if_false,if_true]
     ·rw[gt_c _ _ (by omega)]
     ·rw[lt_c _ _ (by omega)]
 | number s m i =>
   cases h2:k.decode y with
   | nan s f=>rw[h2] at hy;simp[Ieee.Datum.isNaN] at hy
   | infinity t =>
     have e1:k.format.read x = .number s m i:=h1
     have e2:k.format.read y = .infinity t:=h2
     have:=fin_lt h1
     simp only[Ieee.Format.order,e1,e2,Ieee.Datum.order]
     rw[inf_pos h2]
     cases t <;>simp only[Bool.false_eq_true,if_false,if_true]
     ·rw[lt_c _ _ (by omega)]
     ·rw[gt_c _ _ (by omega)]
   | number t n j =>
     obtain ⟨o1,o2,o3⟩:=order_val (read_val h1) (read_val h2)
     rcases compare_int (key k x) (key k y) with ⟨h3,e⟩ | ⟨h3,e⟩ | ⟨h3,e⟩
     ·rw[e];exact o1.2 (key_lt_val h1 h2 h3)
     ·rw[e];exact o2.2 (key_eq_val h1 h2 h3)
     ·rw[e];exact o3.2 (key_lt_val h2 h1 h3)
section
variable {k:FloatKind} {x y:Nat}
theorem order_nan (h:isNaN k x=true∨isNaN k y=true):k.format.order x y=none:=by
 unfold isNaN FloatKind.decode at h
 unfold Ieee.Format.order
 rcases h with h | h
 ·cases hr:k.format.read x with
  | nan s t=>simp[Ieee.Datum.order]
  | infinity s=>rw[hr] at h;cases h
  | number s m e=>rw[hr] at h;cases h
 ·cases hr:k.format.read y with
  | nan s t=>cases k.format.read x <;>simp[Ieee.Datum.order]
  | infinity s=>rw[hr] at h;cases h
  | number s m e=>rw[hr] at h;cases h
def num2 (k:FloatKind) (x y:Nat):Bool:=!isNaN k x && !isNaN k y
theorem order_num2:k.format.order x y=if num2 k x y then some (compare (key k x) (key k y)) else none:=by
 unfold num2
 cases hx:isNaN k x
 ·cases hy:isNaN k y
  ·exact order_key hx hy
  ·exact order_nan (.inr hy)
 ·exact order_nan (.inl hx)
theorem flt_key:flt k x y=(num2 k x y&&decide (key k x<key k y)):=by
 unfold flt
 rw[order_num2]
 cases num2 k x y
 ·rfl
 ·rcases compare_int (key k x) (key k y) with ⟨h,e⟩ | ⟨h,e⟩ | ⟨h,e⟩ <;>rw[if_pos rfl,e] <;>simp <;>omega
theorem fgt_key:fgt k x y=(num2 k x y&&decide (key k y<key k x)):=by
 unfold fgt
 rw[order_num2]
 cases num2 k x y
 ·rfl
 ·rcases compare_int (key k x) (key k y) with ⟨h,e⟩ | ⟨h,e⟩ | ⟨h,e⟩ <;>rw[if_pos rfl,e] <;>simp <;>omega
theorem feq_key:feq k x y=(num2 k x y&&decide (key k x=key k y)):=by
 unfold feq
 rw[order_num2]
 cases num2 k x y
 ·rfl
 ·rcases compare_int (key k x) (key k y) with ⟨h,e⟩ | ⟨h,e⟩ | ⟨h,e⟩ <;>rw[if_pos rfl,e] <;>simp <;>omega
theorem fle_key:fle k x y=(num2 k x y&&decide (key k x≤key k y)):=by
 unfold fle
 rw[order_num2]
 cases num2 k x y
 ·rfl
 ·rcases compare_int (key k x) (key k y) with ⟨h,e⟩ | ⟨h,e⟩ | ⟨h,e⟩ <;>rw[if_pos rfl,e] <;>simp <;>omega
theorem fge_key:fge k x y=(num2 k x y&&decide (key k y≤key k x)):=by
 unfold fge
 rw[order_num2]
 cases num2 k x y
 ·rfl
 ·rcases compare_int (key k x) (key k y) with ⟨h,e⟩ | ⟨h,e⟩ | ⟨h,e⟩ <;>rw[if_pos rfl,e] <;>simp <;>omega
theorem fne_key:fne k x y = !(num2 k x y&&decide (key k x=key k y)):=by rw[fne_feq,feq_key]
end
theorem key32 {x:Nat} (h:x<4294967296):key .f32 x=if x<2147483648 then (x:Int) else -((x:Int) - 2147483648):=by
 have hw:FloatKind.f32.format.signWeight=2147483648:=rfl
 unfold key negOf magOf
 rw[hw]
 by_cases c:x<2147483648
 ·rw[if_pos c,Nat.div_eq_of_lt c,Nat.mod_eq_of_lt c];rfl
 ·have:x / 2147483648=1:=by omega
  rw[if_neg c,this,if_pos (by decide)]
  omega
theorem negF32 {x:Nat} (h:x<4294967296) (hn:isNaN .f32 x=false):negF .f32 x=if x<2147483648 then x+2147483648 else x - 2147483648:=by
 unfold negF
 rw[hn,if_neg (by decide)]
 show x ^^^ 2 ^ 31=_
 have key:∀ y:Nat,y<2147483648→y ^^^ 2 ^ 31=y+2147483648:=by
  intro y hy
  rw[Nat.add_comm,show (2147483648:Nat)=2 ^ 31 * 1 from rfl,Nat.two_pow_add_eq_or_of_lt (i:=31) (by simpa using hy)]
  apply Nat.eq_of_testBit_eq
  intro i
  rw[Nat.testBit_xor,Nat.testBit_or,Nat.mul_one,Nat.testBit_two_pow]
  by_cases e:31=i
  ·subst e;rw[Nat.testBit_lt_two_pow (by simpa using hy)];rfl
  ·simp[e]
 split
 ·rename_i c;exact key x c
 ·rename_i c
  have:=key (x - 2147483648) (by omega)
  rw[show x - 2147483648+2147483648=x by omega] at this
  rw[← this,Nat.xor_assoc,Nat.xor_self,Nat.xor_zero]
  rw[this]
theorem nan32 {x:Nat}:isNaN .f32 x=decide (2139095040<x % 2147483648):=isNaN_f32 x
theorem isNaN_negF32 {x:Nat} (h:x<4294967296) (hn:isNaN .f32 x=false):isNaN .f32 (negF .f32 x)=false:=by
 rw[negF32 h hn]
 rw[nan32] at hn ⊢
 simp at hn ⊢
 split <;>omega
theorem w32_negF {x:Nat} (h:W32 x):W32 (negF .f32 x):=by
 cases hn:isNaN .f32 x
 ·refine ⟨?_,canon_num (isNaN_negF32 h.1 hn)⟩
  rw[negF32 h.1 hn];have:=h.1;split <;>omega
 ·unfold negF;rw[hn];exact w32_qnan
end Go.Desk
end
section
namespace Go.Desk
open Go
def rwF (xs:List Nat):T:=.lst xs.length (fls .f32 xs)
section
variable {p zs:List (List Int)} {z:List Int}
end
section
variable {p zs:List (List Nat)} {z:List Nat}
end
end Go.Desk
end
section
namespace Go.Desk
open Go
def flushM (x:Nat):Nat:=if x % 2147483648<8388608 then x / 2147483648 * 2147483648 else x
def sub32 (x:Nat):Bool:=decide (0<x % 2147483648∧x % 2147483648<8388608)
theorem w32_flush {x:Nat} (h:W32 x):W32 (flushM x):=by
 unfold flushM
 split
 ·have:=h.1
  refine ⟨by omega,canon_num ?_⟩
  rw[nan32];simp
 ·exact h
theorem sub_key {x:Nat} (h:x<4294967296):(fne .f32 x 0&&(flt .f32 x 8388608&&fgt .f32 x 2155872256))=sub32 x:=by
 have e0:isNaN .f32 0=false:=by decide
 have e1:isNaN .f32 8388608=false:=by decide
 have e2:isNaN .f32 2155872256=false:=by decide
 rw[fne_key,flt_key,fgt_key]
 unfold num2
 rw[e0,e1,e2,key32 h,key32 (show 0<4294967296 by decide),key32 (show 8388608<4294967296 by decide),key32 (show 2155872256<4294967296 by decide)]
 unfold sub32
 cases hn:isNaN .f32 x
 ·rw[Bool.eq_iff_iff]
  simp
  split <;>omega
 ·rw[nan32] at hn
  simp at hn
  rw[Bool.eq_iff_iff]
  simp
  omega
theorem wide_sign {x:Nat} (h:x<4294967296) (hn:isNaN .f32 x=false):wide x / 9223372036854775808=x / 2147483648:=by
 obtain ⟨-,h2,h3⟩:=wide_size hn
 have hs:(wide x / 9223372036854775808 % 2==1)=(x / 2147483648 % 2==1):=by
  cases hd:FloatKind.f32.decode x with
  | nan s t=>unfold isNaN at hn;rw[hd] at hn;cases hn
  | infinity s =>
    have e1:=(read_inf hd).2
    have e2:wide x=FloatKind.f64.encode (.infinity s):=by unfold wide fltToFlt;rw[if_neg (by decide),hd]
    have e3:FloatKind.f64.decode (wide x) = .infinity s:=by rw[e2];cases s <;>decide
    have e4:=(read_inf e3).2
    exact e4.trans e1.symm
  | number s m e =>
    have e1:=(read_fin hd).2
    obtain ⟨-,m',e',e3,-⟩:=wide_num hd
    have e4:=(read_fin e3).2
    exact e4.trans e1.symm
 rw[Bool.eq_iff_iff] at hs
 simp only[beq_iff_eq] at hs
 omega
theorem narrow_zero:fltToFlt .f64 0 .f32=some 0∧fltToFlt .f64 9223372036854775808 .f32=some 2147483648:=by decide
theorem copy_zero (n:Nat) {x:Nat} (h:x<4294967296) (hn:isNaN .f32 x=false):∃ y,xCopysign (n+1) 0 (wide x)=some y∧fltToFlt .f64 y .f32=some (x / 2147483648 * 2147483648):=by
 obtain ⟨-,h2,h3⟩:=wide_size hn
 have hs:=wide_sign h hn
 have e0:isNaN .f64 0=false:=by decide
 refine ⟨wide x / 9223372036854775808 * 9223372036854775808,?_,?_⟩
 ·show (if isNaN .f64 (wide x) then none else if isNaN .f64 0 then none else if 0<18446744073709551616∧wide x<18446744073709551616 then some (0 % 9223372036854775808+wide x / 9223372036854775808 * 9223372036854775808) else none)=_
  rw[h2,e0,if_neg (by decide),if_neg (by decide),if_pos ⟨by decide,h3⟩]
  simp
 ·rw[hs]
  have:x / 2147483648=0∨x / 2147483648=1:=by omega
  rcases this with e | e <;>rw[e]
  ·exact narrow_zero.1
  ·exact narrow_zero.2
abbrev Filt:=Nat × Nat × Nat × Nat × Nat
abbrev Mem:=Nat × Nat × Nat × Nat
def fl? (b:Bool) (x:Nat):Nat:=if b then flushM x else x
theorem w32_fl? {b:Bool} {x:Nat} (h:W32 x):W32 (fl? b x):=by
 unfold fl?;split
 ·exact w32_flush h
 ·exact h
def WMem (m:Mem):Prop:=W32 m.1∧W32 m.2.1∧W32 m.2.2.1∧W32 m.2.2.2
def fstep (f:Filt) (form:Int) (b:Bool) (m:Mem) (x:Nat):Nat × Mem :=
 if form=0 then
  let y:=fl? b (fsub .f32 (fsub .f32 (fadd .f32 (fadd .f32 (fmul .f32 f.1 x) (fmul .f32 f.2.1 m.1)) (fmul .f32 f.2.2.1 m.2.1)) (fmul .f32 f.2.2.2.1 m.2.2.1)) (fmul .f32 f.2.2.2.2 m.2.2.2))
  (y,fl? b x,fl? b m.1,fl? b y,fl? b m.2.2.1)
 else if form=1 then
  let y:=fl? b (fadd .f32 (fmul .f32 f.1 x) m.1)
  (y,fl? b (fadd .f32 (fsub .f32 (fmul .f32 f.2.1 x) (fmul .f32 f.2.2.2.1 y)) m.2.1),fl? b (fsub .f32 (fmul .f32 f.2.2.1 x) (fmul .f32 f.2.2.2.2 y)),fl? b 0,fl? b 0)
 else
  let w:=fl? b (fsub .f32 (fsub .f32 x (fmul .f32 f.2.2.2.1 m.1)) (fmul .f32 f.2.2.2.2 m.2.1))
  (fl? b (fadd .f32 (fadd .f32 (fmul .f32 f.1 w) (fmul .f32 f.2.1 m.1)) (fmul .f32 f.2.2.1 m.2.1)),fl? b w,fl? b m.1,fl? b 0,fl? b 0)
theorem fstep_w32 {f:Filt} {form:Int} {b:Bool} {m:Mem} {x:Nat} (hm:WMem m) (hx:W32 x):W32 (fstep f form b m x).1∧WMem (fstep f form b m x).2:=by
 obtain ⟨m1,m2,m3,m4⟩:=hm
 unfold fstep
 split
 ·exact ⟨w32_fl? (w32_fsub _ _),w32_fl? hx,w32_fl? m1,w32_fl? (w32_fl? (w32_fsub _ _)),w32_fl? m3⟩
 ·split
  ·exact ⟨w32_fl? (w32_fadd _ _),w32_fl? (w32_fadd _ _),w32_fl? (w32_fsub _ _),w32_fl? w32_zero,w32_fl? w32_zero⟩
  ·exact ⟨w32_fl? (w32_fadd _ _),w32_fl? (w32_fl? (w32_fsub _ _)),w32_fl? m1,w32_fl? w32_zero,w32_fl? w32_zero⟩
section
variable {σ α β:Type} {f:σ→α→β × σ} {P:σ→Prop} {Q:α→Prop} {S:β→Prop}
theorem scan_inv (hf:∀ s x,P s→Q x→S (f s x).1∧P (f s x).2):∀ (xs:List α) (s:σ),P s→(∀ x∈xs,Q x)→(∀ y∈(scan f s xs).1,S y)∧P (scan f s xs).2
 | [],s,hs,_=>⟨by simp[scan],hs⟩
 | x::xs,s,hs,hx=>by
   obtain ⟨h1,h2⟩:=hf s x hs (hx x (by simp))
   obtain ⟨h3,h4⟩:=scan_inv hf xs _ h2 (fun y hy=>hx y (by simp[hy]))
   refine ⟨?_,h4⟩
   intro y hy
   simp only[scan,List.mem_cons] at hy
   rcases hy with rfl | hy
   ·exact h1
   ·exact h3 y hy
end
end Go.Desk
end
section
namespace Go.Desk
open Go
section
variable {p zs:List (Int × Nat)} {z:Int × Nat}
end
def tookM (w:List Nat) (x:Nat):List Nat:=w.drop 1++[x]
theorem took_length {w:List Nat} {x:Nat} (h:0<w.length):(tookM w x).length=w.length:=by unfold tookM;simp;omega
end Go.Desk
end
section
namespace Go.Desk
open Go
def fin32 (x:Nat):Bool:=decide (x % 2147483648<2139095040)
theorem fin_num {x:Nat} (h:fin32 x=true):isNaN .f32 x=false:=by
 unfold fin32 at h;rw[nan32];simp at h ⊢;omega
theorem fin_read {x:Nat} (h:fin32 x=true):∃ s m e,FloatKind.f32.decode x = .number s m e:=by
 cases hd:FloatKind.f32.decode x with
 | number s m e=>exact ⟨s,m,e,rfl⟩
 | infinity s =>
   have h1:=(read_inf hd).1
   unfold fin32 at h
   have e1:FloatKind.f32.format.infRung=2139095040:=by decide
   have e2:magOf .f32 x=x % 2147483648:=rfl
   simp at h
   omega
 | nan s t =>
   have:=fin_num h
   unfold isNaN at this
   rw[hd] at this;cases this
theorem fsub_self {x:Nat} (h:fin32 x=true):fsub .f32 x x=0:=by
 obtain ⟨s,m,e,hd⟩:=fin_read h
 have hd:FloatKind.f32.format.read x = .number s m e:=hd
 unfold fsub Ieee.Format.sub
 rw[hd]
 simp only[Ieee.Datum.opposite,Ieee.Datum.sum]
 have e0:Ieee.signed s m (e - min e e).toNat+Ieee.signed (!s) m (e - min e e).toNat=0:=by
  unfold Ieee.signed
  cases s <;>simp <;>omega
 rw[e0]
 cases s <;>rfl
theorem sub_finite (x:Nat):feq .f32 (fsub .f32 x x) 0=fin32 x:=by
 cases h:fin32 x
 ·
  have hN:isNaN .f32 (fsub .f32 x x)=true:=by
   cases hd:FloatKind.f32.decode x with
   | number s m e =>
     have h1:=(read_fin hd).1
     have e1:FloatKind.f32.format.infRung=2139095040:=by decide
     have e2:magOf .f32 x=x % 2147483648:=rfl
     unfold fin32 at h
     simp at h
     omega
   | infinity s =>
     have hd:FloatKind.f32.format.read x = .infinity s:=hd
     unfold fsub Ieee.Format.sub
     rw[hd]
     cases s <;>decide
   | nan s t =>
     have hd:FloatKind.f32.format.read x = .nan s t:=hd
     unfold fsub Ieee.Format.sub
     rw[hd]
     simp only[Ieee.Datum.sum,Option.map_none]
     decide
  rw[feq_key];unfold num2;rw[hN];rfl
 ·rw[fsub_self h];decide
end Go.Desk
end
section
namespace Go.Desk
open Go
theorem sub_val {k:FloatKind} {x y:Nat} {a b B:Rat} (hx:Val k x a) (hy:Val k y b) (hB:Rep0 k B) (hf:B<p2 (topE k)) (h1:a - b≤B) (h2 : -B≤a - b) :
  ∃ R,Val k (fsub k x y) R∧Near k (a - b) R:=by
 obtain ⟨s,m,i,e1,rfl,-⟩:=hx
 obtain ⟨t,n,j,e2,rfl,-⟩:=hy
 have e1:k.format.read x = .number s m i:=e1
 have e2:k.format.read y = .number t n j:=e2
 generalize hb:min i j=base
 generalize ht:Ieee.signed s m (i - base).toNat+Ieee.signed (!t) n (j - base).toNat=total
 have hadd:fsub k x y=k.encode (.number (if total=0 then s && !t else total<0) total.natAbs base):=by
  simp only[fsub,Ieee.Format.sub,e1,e2,Ieee.Datum.opposite,Ieee.Datum.sum,Option.map_some,hb,ht]
  rfl
 have hneg:sg (!t) (mv n j) = -sg t (mv n j):=by cases t <;>simp[sg]
 have hval:sg (if total=0 then s && !t else decide (total<0)) (mv total.natAbs base)=sg s (mv m i) - sg t (mv n j):=by
  rw[Rat.sub_eq_add_neg,← hneg,total_val,← ht,Rat.intCast_add,Rat.add_mul,signed_val,signed_val]
  congr 2 <;>congr 1 <;>omega
 rw[hadd,← hval]
 exact write_val k _ _ _ hB (abs_le (mv_nonneg _ _) (by rw[hval];exact h1) (by rw[hval];exact h2)) hf
theorem write_lt2 (k:FloatKind) (s:Bool) (m:Nat) (e:Int):k.encode (.number s m e)<2 * k.format.signWeight:=write_lt k (by intro _ _ h;cases h)
theorem fadd_lt (k:FloatKind) (x y:Nat):fadd k x y<2 * k.format.signWeight:=by
 unfold fadd Ieee.Format.add
 cases h:(k.format.read x).sum (k.format.read y) with
 | none=>cases k <;>decide
 | some d=>exact write_lt k (fun s t e=>sum_not_nan h s t e)
theorem fmul_lt (k:FloatKind) (x y:Nat):fmul k x y<2 * k.format.signWeight:=by
 unfold fmul Ieee.Format.mul
 cases h:(k.format.read x).product (k.format.read y) with
 | none=>cases k <;>decide
 | some d=>exact write_lt k (fun s t e=>product_not_nan h s t e)
theorem nearest_lt (k:FloatKind) (n:Int):k.nearest n<2 * k.format.signWeight:=write_lt2 k _ _ _
theorem word_of_val {k:FloatKind} {x y:Nat} {a:Rat} (hx:x<2 * k.format.signWeight) (hy:y<2 * k.format.signWeight) (h1:Val k x a) (h2:Val k y a) (ha:a≠0):x=y:=by
 obtain ⟨s,m,i,e1,h3,-⟩:=h1
 obtain ⟨t,n,j,e2,h4,-⟩:=h2
 have p1:=mv_nonneg m i
 have p2:=mv_nonneg n j
 have hst:s=t:=by
  cases s <;>cases t <;>simp only[sg_true,sg_false] at h3 h4 <;>first | rfl | (exfalso;grind)
 subst hst
 refine word_inj hx hy e1 e2 ?_
 cases s <;>simp only[sg_true,sg_false] at h3 h4 <;>grind
theorem rep_nat (k:FloatKind) {B:Nat} (hB:B≤2 * k.format.binade):Rep0 k (B:Rat):=by
 refine ⟨B,0,hB,by cases k <;>decide,?_⟩
 unfold mv;rw[p2_zero,Rat.mul_one]
theorem nat_top (k:FloatKind) {B:Nat} (hB:B≤2 * k.format.binade):(B:Rat)<p2 (topE k):=by
 have h1:(B:Rat)≤((2 * k.format.binade:Nat):Rat):=by exact_mod_cast hB
 have h2:((2 * k.format.binade:Nat):Rat)<p2 (topE k):=by
  have:∃ j:Nat,2 * k.format.binade=2 ^ j∧(j:Int)<topE k:=by
   cases k
   ·exact ⟨24,by decide,by decide⟩
   ·exact ⟨53,by decide,by decide⟩
  obtain ⟨j,e,h⟩:=this
  rw[e,← p2_nat]
  exact p2_lt h
 exact rlt h1 h2
theorem int_rep {k:FloatKind} {n:Int} (hn:n.natAbs≤2 * k.format.binade):Rep k (n:Rat):=(int_val hn).rep
theorem int_abs {n:Int}:(n:Rat)≤((n.natAbs:Nat):Rat) ∧ -((n.natAbs:Nat):Rat)≤(n:Rat):=by
 have h1:n≤((n.natAbs:Nat):Int):=by omega
 have h2 : -((n.natAbs:Nat):Int)≤n:=by omega
 have e:((n.natAbs:Nat):Rat)=(((n.natAbs:Nat):Int):Rat):=(Rat.intCast_natCast _).symm
 rw[e]
 refine ⟨Rat.intCast_le_intCast.2 h1,?_⟩
 rw[← Rat.intCast_neg]
 exact Rat.intCast_le_intCast.2 h2
theorem nearest_zero (k:FloatKind):k.nearest 0=0:=by cases k <;>decide
theorem int_add {k:FloatKind} {a b:Int} (ha:a.natAbs≤2 * k.format.binade) (hb:b.natAbs≤2 * k.format.binade) (hab:(a+b).natAbs≤2 * k.format.binade):fadd k (k.nearest a) (k.nearest b)=k.nearest (a+b):=by
 have va:=int_val (k:=k) ha
 have vb:=int_val (k:=k) hb
 by_cases h0:a+b=0
 ·rw[h0,nearest_zero]
  obtain ⟨s,m,i,e1,h1,-⟩:=va
  obtain ⟨t,n,j,e2,h2,-⟩:=vb
  have p1:=mv_nonneg m i
  have p2' :=mv_nonneg n j
  have hbv:(b:Rat) = -(a:Rat):=by
   have:b = -a:=by omega
   rw[this,Rat.intCast_neg]
  have hst:(s&&t)=false:=by
   by_cases h:a=0
   ·subst h
    rw[nearest_zero] at e1
    have:k.decode 0 = .number false 0 k.format.leastPlace:=by cases k <;>decide
    rw[this] at e1
    cases e1;rfl
   ·have hne:(a:Rat)≠0:=by exact_mod_cast h
    cases s <;>cases t <;>simp only[sg_true,sg_false] at h1 h2 <;>first | rfl | (exfalso;grind)
  have e1:k.format.read (k.nearest a) = .number s m i:=e1
  have e2:k.format.read (k.nearest b) = .number t n j:=e2
  generalize hbase:min i j=base
  have ht:Ieee.signed s m (i - base).toNat+Ieee.signed t n (j - base).toNat=0:=by
   have h3:((Ieee.signed s m (i - base).toNat+Ieee.signed t n (j - base).toNat:Int):Rat) * p2 base=0:=by
    rw[Rat.intCast_add,Rat.add_mul,signed_val,signed_val]
    rw[show base+((i - base).toNat:Int)=i by omega,show base+((j - base).toNat:Int)=j by omega,← h1,← h2,hbv]
    grind
   have h4:=p2_pos base
   have h5:((Ieee.signed s m (i - base).toNat+Ieee.signed t n (j - base).toNat:Int):Rat)=0:=by
    rcases Rat.mul_eq_zero.1 h3 with h | h
    ·exact h
    ·rw[h] at h4;exact absurd h4 (by decide)
   exact_mod_cast h5
  simp only[fadd,Ieee.Format.add,e1,e2,Ieee.Datum.sum,Option.map_some,hbase,ht,hst]
  rfl
 ·have hv:(a:Rat)+(b:Rat)=((a+b:Int):Rat):=(Rat.intCast_add _ _).symm
  obtain ⟨h1,h2⟩:=int_abs (n:=a+b)
  obtain ⟨R,h3,h4⟩:=add_val va vb (rep_nat k hab) (nat_top k hab) (by rw[hv];exact h1) (by rw[hv];exact h2)
  rw[hv] at h4
  have h5:=h3.near_eq h4 (int_rep hab)
  exact word_of_val (fadd_lt _ _ _) (nearest_lt _ _) h5 (int_val hab) (by exact_mod_cast h0)
def Bd (k:FloatKind) (x:Nat) (B:Nat):Prop:=∃ v:Rat,Val k x v ∧ -(B:Rat)≤v∧v≤(B:Rat)
theorem Near.bd {k:FloatKind} {v R:Rat} {B:Nat} (h:Near k v R) (hB:B≤2 * k.format.binade) (h1:v≤(B:Rat)) (h2 : -(B:Rat)≤v) : -(B:Rat)≤R∧R≤(B:Rat) :=
 ⟨(h _ (rep_nat k hB).neg).2 h2,(h _ (rep_nat k hB).rep).1 h1⟩
theorem Bd.add {k:FloatKind} {x y A B:Nat} (hx:Bd k x A) (hy:Bd k y B) (h:A+B≤2 * k.format.binade):Bd k (fadd k x y) (A+B):=by
 obtain ⟨v,h1,h2,h3⟩:=hx
 obtain ⟨w,h4,h5,h6⟩:=hy
 have e:=Rat.natCast_add A B
 have g1:v+w≤((A+B:Nat):Rat):=by rw[e];grind
 have g2 : -((A+B:Nat):Rat)≤v+w:=by rw[e];grind
 obtain ⟨R,q1,q2⟩:=add_val h1 h4 (rep_nat k h) (nat_top k h) g1 g2
 exact ⟨R,q1,q2.bd h g1 g2⟩
theorem Bd.sub {k:FloatKind} {x y A B:Nat} (hx:Bd k x A) (hy:Bd k y B) (h:A+B≤2 * k.format.binade):Bd k (fsub k x y) (A+B):=by
 obtain ⟨v,h1,h2,h3⟩:=hx
 obtain ⟨w,h4,h5,h6⟩:=hy
 have e:=Rat.natCast_add A B
 have g1:v - w≤((A+B:Nat):Rat):=by rw[e];grind
 have g2 : -((A+B:Nat):Rat)≤v - w:=by rw[e];grind
 obtain ⟨R,q1,q2⟩:=sub_val h1 h4 (rep_nat k h) (nat_top k h) g1 g2
 exact ⟨R,q1,q2.bd h g1 g2⟩
theorem mul_between {v w A B:Rat} (hA:0≤A) (hB:0≤B) (h1 : -A≤v) (h2:v≤A) (h3 : -B≤w) (h4:w≤B) : -(A * B)≤v * w∧v * w≤A * B:=by
 have key:∀ v w:Rat,0≤v→0≤w→v≤A→w≤B→0≤v * w∧v * w≤A * B:=fun v w a b c d =>
  ⟨Rat.mul_nonneg a b,Rat.le_trans (Rat.mul_le_mul_of_nonneg_right c b) (Rat.mul_le_mul_of_nonneg_left d hA)⟩
 rcases (Rat.le_total:(0:Rat)≤v∨v≤0) with hv | hv <;>rcases (Rat.le_total:(0:Rat)≤w∨w≤0) with hw | hw
 ·have:=key v w hv hw h2 h4;grind
 ·have:=key v (-w) hv (by grind) h2 (by grind);grind
 ·have:=key (-v) w (by grind) hw (by grind) h4;grind
 ·have:=key (-v) (-w) (by grind) (by grind) (by grind) (by grind);grind
theorem Bd.mul {k:FloatKind} {x y A B:Nat} (hx:Bd k x A) (hy:Bd k y B) (h:A * B≤2 * k.format.binade):Bd k (fmul k x y) (A * B):=by
 obtain ⟨v,h1,h2,h3⟩:=hx
 obtain ⟨w,h4,h5,h6⟩:=hy
 have e:=Rat.natCast_mul A B
 have hA:(0:Rat)≤(A:Rat):=by exact_mod_cast Nat.zero_le A
 have hB:(0:Rat)≤(B:Rat):=by exact_mod_cast Nat.zero_le B
 obtain ⟨g2,g1⟩:=mul_between hA hB h2 h3 h5 h6
 rw[← e] at g1 g2
 obtain ⟨R,q1,q2⟩:=mul_val h1 h4 (rep_nat k h) (nat_top k h) g1 g2
 exact ⟨R,q1,q2.bd h g1 g2⟩
theorem Bd.div {k:FloatKind} {x y A:Nat} {w:Rat} (hx:Bd k x A) (hy:Val k y w) (hw:1≤w) (h:A≤2 * k.format.binade):Bd k (fdiv k x y) A:=by
 obtain ⟨v,h1,h2,h3⟩:=hx
 have hA:(0:Rat)≤(A:Rat):=by exact_mod_cast Nat.zero_le A
 have hw0:w≠0:=by grind
 have hpos:0<w:=by grind
 have hq:v / w * w=v:=Rat.div_mul_cancel hw0
 have hAw:(A:Rat) * 1≤(A:Rat) * w:=Rat.mul_le_mul_of_nonneg_left hw hA
 have g1:v / w≤(A:Rat):=by
  refine Rat.not_lt.1 fun h => ?_
  have:=(Rat.mul_lt_mul_right hpos).2 h
  grind
 have g2 : -(A:Rat)≤v / w:=by
  refine Rat.not_lt.1 fun h => ?_
  have:=(Rat.mul_lt_mul_right hpos).2 h
  grind
 obtain ⟨R,q1,q2⟩:=div_val h1 hy hw0 (rep_nat k h) (nat_top k h) g1 g2
 exact ⟨R,q1,q2.bd h g1 g2⟩
theorem Bd.int {k:FloatKind} {n:Int} {B:Nat} (h:n.natAbs≤B) (hB:B≤2 * k.format.binade):Bd k (k.nearest n) B:=by
 obtain ⟨h1,h2⟩:=int_abs (n:=n)
 have:((n.natAbs:Nat):Rat)≤(B:Rat):=by exact_mod_cast h
 exact ⟨_,int_val (by omega),by grind,by grind⟩
theorem Bd.toInt {x B:Nat} (h:Bd .f64 x B) (hB:B≤4611686018427387904):∃ n:Int,fltToInt .f64 x .i64=some n∧n.natAbs≤B:=by
 obtain ⟨v,⟨s,m,i,e1,rfl,-⟩,h2,h3⟩:=h
 have hv:=mv_nonneg m i
 have hmv:mv m i≤(B:Rat):=by cases s <;>simp only[sg_true,sg_false] at h2 h3 <;>grind
 have hc:(m <<< i.toNat) / 2 ^ (-i).toNat≤B:=by
  refine Nat.div_le_of_le_mul ?_
  rw[Nat.shiftLeft_eq]
  have h4:mv (m * 2 ^ i.toNat) (-((-i).toNat:Int))≤mv (2 ^ (-i).toNat * B) (-((-i).toNat:Int)):=by
   rw[Nat.mul_comm (2 ^ (-i).toNat),mv_shift,mv_shift]
   rw[show -((-i).toNat:Int)+(i.toNat:Int)=i by omega,show -((-i).toNat:Int)+((-i).toNat:Int)=0 by omega]
   have e0:mv B 0=(B:Rat):=by unfold mv;rw[p2_zero,Rat.mul_one]
   rw[e0];exact hmv
  exact mv_le.1 h4
 refine ⟨Ieee.signed s ((m <<< i.toNat) / 2 ^ (-i).toNat) 0,?_,?_⟩
 ·unfold fltToInt
  rw[e1]
  simp only[Ieee.Datum.toInt,Ieee.Datum.integral,cut_zero]
  have h5:IntKind.i64.min≤Ieee.signed s ((m <<< i.toNat) / 2 ^ (-i).toNat) 0∧Ieee.signed s ((m <<< i.toNat) / 2 ^ (-i).toNat) 0≤IntKind.i64.max:=by
   have e1:IntKind.i64.min = -9223372036854775808:=by decide
   have e2:IntKind.i64.max=9223372036854775807:=by decide
   rw[e1,e2]
   generalize (m <<< i.toNat) / 2 ^ (-i).toNat=c at *
   unfold Ieee.signed
   simp only[Nat.shiftLeft_zero]
   split <;>omega
  rw[if_pos h5]
 ·generalize (m <<< i.toNat) / 2 ^ (-i).toNat=c at *
  unfold Ieee.signed
  simp only[Nat.shiftLeft_zero]
  split <;>omega
theorem Bd.even {x B:Nat} (h:Bd .f64 x B) (hB:B≤2 * FloatKind.f64.format.binade):Bd .f64 (integralF .even x) B:=by
 obtain ⟨v,⟨s,m,i,e1,rfl,-⟩,h2,h3⟩:=h
 have hv:=mv_nonneg m i
 have hmv:mv m i≤(B:Rat):=by cases s <;>simp only[sg_true,sg_false] at h2 h3 <;>grind
 have hn:m <<< i.toNat≤B * 2 ^ (-i).toNat:=by
  rw[Nat.shiftLeft_eq]
  have h4:mv (m * 2 ^ i.toNat) (-((-i).toNat:Int))≤mv (B * 2 ^ (-i).toNat) (-((-i).toNat:Int)):=by
   rw[mv_shift,mv_shift]
   rw[show -((-i).toNat:Int)+(i.toNat:Int)=i by omega,show -((-i).toNat:Int)+((-i).toNat:Int)=0 by omega]
   have e0:mv B 0=(B:Rat):=by unfold mv;rw[p2_zero,Rat.mul_one]
   rw[e0];exact hmv
  exact mv_le.1 h4
 have hc:=(cut_bounds s (m <<< i.toNat) (-i).toNat B).1 hn
 have e2:integralF .even x=FloatKind.f64.encode (.number s (Ieee.Toward.cut .even s (m <<< i.toNat) (-i).toNat) 0):=by
  unfold integralF;rw[e1];rfl
 rw[e2]
 generalize Ieee.Toward.cut .even s (m <<< i.toNat) (-i).toNat=c at *
 have hcb:c≤2 * FloatKind.f64.format.binade:=by omega
 have e3:mv c 0=(c:Rat):=by unfold mv;rw[p2_zero,Rat.mul_one]
 have e4:(c:Rat)≤(B:Rat):=by exact_mod_cast hc
 have e5:(0:Rat)≤(c:Rat):=by exact_mod_cast Nat.zero_le c
 obtain ⟨m',e',q1,q2⟩:=exact_write .f64 s (m:=c) (e:=0) (by rw[e3];exact rep_nat .f64 hcb) (by rw[e3];exact nat_top .f64 hcb)
 refine ⟨_,read_val q1,?_,?_⟩ <;>rw[q2,e3] <;>cases s <;>simp only[sg_true,sg_false] <;>grind
end Go.Desk
end
section
namespace Go.Desk
open Go
theorem fin_val {x:Nat} (h:fin32 x=true):Val .f32 x (fval .f32 x):=by
 obtain ⟨s,m,e,hd⟩:=fin_read h
 have:=read_val hd
 unfold fval;rw[hd];exact this
theorem Val.fval {k:FloatKind} {x:Nat} {v:Rat} (h:Val k x v):Go.Desk.fval k x=v:=by
 obtain ⟨s,m,e,h1,h2,-⟩:=h
 unfold Go.Desk.fval;rw[h1];exact h2.symm
theorem Val.fin {x:Nat} {v:Rat} (h:Val .f32 x v):fin32 x=true:=by
 obtain ⟨s,m,e,h1,-⟩:=h
 have:=(read_fin h1).1
 unfold fin32
 exact decide_eq_true this
theorem size_val {x:Nat} {v:Rat} (hx:W32 x) (h:Val .f32 x v):(0≤v→Val .f32 (size32 x) v)∧(v≤0→Val .f32 (size32 x) (-v)):=by
 have hn:=h.num
 obtain ⟨s,m,e,h1,rfl,h2,h3⟩:=h
 have hs:size32 x=x % 2147483648:=by unfold size32;rw[hn];rfl
 have h4:FloatKind.f32.decode (size32 x) = .number false m e:=by rw[hs];exact decode_size.1 s m e h1
 have h5:=read_val h4
 have hnn:=mv_nonneg m e
 rw[sg_false] at h5
 constructor
 ·intro h
  cases s <;>simp only[sg_true,sg_false] at h ⊢
  ·exact h5
  ·have:mv m e=0:=by grind
   rw[this] at h5 ⊢;simpa using h5
 ·intro h
  cases s <;>simp only[sg_true,sg_false] at h ⊢
  ·have:mv m e=0:=by grind
   rw[this] at h5 ⊢;simpa using h5
  ·rw[Rat.neg_neg];exact h5
def plainOk (x:Nat):Bool:=fin32 x&&(x % 2147483648==0||(decide (1031798784≤x % 2147483648)&&decide (x % 2147483648≤1091829760)))
theorem plain_tab:∀ m:Nat,m<129→(plainOk (fdiv .f32 (FloatKind.f32.nearest ((m:Int) - 64)) 1088421888)&&plainOk (fdiv .f32 (FloatKind.f32.nearest ((m:Int) - 64)) 1098907648))=true:=by decide +kernel
theorem Plain.ok {x:Nat} (h:Plain x):plainOk x=true:=by
 obtain ⟨m,hm,h⟩:=h
 obtain ⟨k,hk⟩:=Int.eq_ofNat_of_zero_le (show 0≤m+64 by omega)
 have hm':m=(k:Int) - 64:=by omega
 have:=plain_tab k (by omega)
 rw[← hm',Bool.and_eq_true] at this
 rcases h with rfl | rfl
 ·exact this.1
 ·exact this.2
theorem Plain.fin {x:Nat} (h:Plain x):fin32 x=true:=by
 have:=h.ok
 unfold plainOk at this
 rw[Bool.and_eq_true] at this
 exact this.1
theorem val_const (x:Nat) (s:Bool) (m:Nat) (e:Int) (h:FloatKind.f32.decode x = .number s m e):Val .f32 x (sg s (mv m e)):=read_val h
theorem Plain.val {x:Nat} (h:Plain x):∃ v,Val .f32 (size32 x) v∧(v=0∨1 / 16≤v)∧0≤v∧v≤10∧(fval .f32 x=v∨fval .f32 x = -v):=by
 have hf:=h.fin
 have hok:=h.ok
 have hw:=h.w32
 have hv:=fin_val hf
 obtain ⟨s1,s2⟩:=size_val hw hv
 have hn:=fin_num hf
 have hs:size32 x=x % 2147483648:=by unfold size32;rw[hn];rfl
 have hex:∃ v,Val .f32 (size32 x) v∧0≤v∧(fval .f32 x=v∨fval .f32 x = -v):=by
  rcases (Rat.le_total:(0:Rat)≤fval .f32 x∨fval .f32 x≤0) with h1 | h1
  ·exact ⟨_,s1 h1,h1,.inl rfl⟩
  ·exact ⟨_,s2 h1,by grind,.inr (by grind)⟩
 obtain ⟨v,q1,q2,q3⟩:=hex
 refine ⟨v,q1,?_,q2,?_,q3⟩
 ·unfold plainOk at hok
  simp only[Bool.and_eq_true,Bool.or_eq_true,beq_iff_eq,decide_eq_true_eq] at hok
  rcases hok.2 with h0 | ⟨h1,-⟩
  ·rw[← hs] at h0
   rw[h0] at q1
   exact .inl (q1.inj (val_zero .f32))
  ·refine .inr ?_
   have hc:Val .f32 1031798784 (1 / 16):=by
    have:=val_const 1031798784 false (2 ^ 23) (-27) (by decide)
    rw[sg_false,mv_pow] at this
    have e:p2 (-27+((23:Nat):Int)) * 16=1:=by
     have h4:=p2_add (-27+((23:Nat):Int)) 4
     have h16:p2 4=16:=by have:=p2_nat 4;rw[show ((4:Nat):Int)=4 from rfl] at this;rw[this];rfl
     rw[h16] at h4;rw[← h4,show (-27:Int)+((23:Nat):Int)+4=0 by decide,p2_zero]
    have e2:p2 (-27+((23:Nat):Int))=1 / 16:=by grind
    rw[e2] at this;exact this
   have:=(fge_val q1 hc).1 (by
    rw[fge_key];unfold num2
    rw[q1.num,hc.num,key32 (by omega),key32 (by omega),if_pos (by omega),if_pos (by omega)]
    simp;omega)
   exact this
 ·unfold plainOk at hok
  simp only[Bool.and_eq_true,Bool.or_eq_true,beq_iff_eq,decide_eq_true_eq] at hok
  have hle:x % 2147483648≤1091829760:=by rcases hok.2 with h0 | ⟨-,h1⟩ <;>omega
  have hc:Val .f32 1092616192 10:=by
   have:=int_val (k:=.f32) (n:=10) (by decide)
   rwa [show FloatKind.f32.nearest 10=1092616192 by decide] at this
  refine (fle_val q1 hc).1 ?_
  rw[fle_key];unfold num2
  rw[q1.num,hc.num,key32 (by omega),key32 (by omega),if_pos (by omega),if_pos (by omega)]
  simp;omega
end Go.Desk
end
section
namespace Go.Desk
open Go
def levelM (at_ re:Nat) (l x:Nat):Nat:=flushM (fadd .f32 l (fmul .f32 (if fgt .f32 (size32 x) l then at_ else re) (fsub .f32 (size32 x) l)))
theorem w32_level (a r l x:Nat):W32 (levelM a r l x):=w32_flush (w32_fadd _ _)
def gainM (l t r:Nat):Nat:=if fgt .f32 l t then fdiv .f32 (fadd .f32 t (fdiv .f32 (fsub .f32 l t) r)) l else 1065353216
def duckStep (a r t q:Nat) (l:Nat) (x:Nat × Nat):Nat × Nat:=(fmul .f32 x.1 (gainM (levelM a r l x.2) t q),levelM a r l x.2)
theorem binade32:2 * FloatKind.f32.format.binade=16777216:=by decide
end Go.Desk
end
section
namespace Go.Desk
open Go
def headM (w:List Nat):Nat:=w.getD 0 0
def AllW (w:List Nat):Prop:=∀ y∈w,W32 y
theorem allW_took {w:List Nat} {x:Nat} (h:AllW w) (hx:W32 x):AllW (tookM w x):=by
 intro y hy
 simp only[tookM,List.mem_append,List.mem_singleton] at hy
 rcases hy with hy | rfl
 ·exact h y (List.mem_of_mem_drop hy)
 ·exact hx
theorem int_mul {a b:Int} (ha:a.natAbs≤16777216) (hb:b.natAbs≤16777216) (hab:(a * b).natAbs≤16777216) (h0:a * b≠0):fmul .f32 (FloatKind.f32.nearest a) (FloatKind.f32.nearest b)=FloatKind.f32.nearest (a * b):=by
 have b32:2 * FloatKind.f32.format.binade=16777216:=binade32
 have va:=int_val (k:=.f32) (n:=a) (by rw[b32];exact ha)
 have vb:=int_val (k:=.f32) (n:=b) (by rw[b32];exact hb)
 have hab':(a * b).natAbs≤2 * FloatKind.f32.format.binade:=by rw[b32];exact hab
 have hv:(a:Rat) * (b:Rat)=((a * b:Int):Rat):=(Rat.intCast_mul _ _).symm
 obtain ⟨h1,h2⟩:=int_abs (n:=a * b)
 obtain ⟨R,h3,h4⟩:=mul_val va vb (rep_nat .f32 hab') (nat_top .f32 hab') (by rw[hv];exact h1) (by rw[hv];exact h2)
 rw[hv] at h4
 have h5:=h3.near_eq h4 (int_rep hab')
 exact word_of_val (fmul_lt _ _ _) (nearest_lt _ _) h5 (int_val hab') (by exact_mod_cast h0)
theorem nearest_one:FloatKind.f32.nearest 1=1065353216:=by decide
theorem one_mul {a:Int} (h : -1000000≤a∧a≤1000000):fmul .f32 1065353216 (FloatKind.f32.nearest a)=FloatKind.f32.nearest a:=by
 by_cases h0:a=0
 ·subst h0;decide
 ·have:=int_mul (a:=1) (b:=a) (by decide) (by omega) (by omega) (by omega)
  rw[nearest_one,Int.one_mul] at this
  exact this
theorem small_bin {a:Int} (h : -1000000≤a∧a≤1000000):a.natAbs≤2 * FloatKind.f32.format.binade:=by
 rw[show 2 * FloatKind.f32.format.binade=16777216 from binade32];omega
theorem add_zero {a:Int} (h : -1000000≤a∧a≤1000000):fadd .f32 (FloatKind.f32.nearest a) 0=FloatKind.f32.nearest a:=by
 have:=int_add (k:=.f32) (a:=a) (b:=0) (small_bin h) (by decide) (by simpa using small_bin h)
 rw[nearest_zero] at this
 simpa using this
end Go.Desk
namespace Go.Desk
open Go
theorem and_nat {x m:Nat} (hx:x<4294967296) (hm:m<4294967296):intBits BinOp.and .i64 (x:Int) (m:Int)=((x &&& m:Nat):Int):=by
 have e1:∀ y:Nat,BitVec.ofInt 64 (y:Int)=BitVec.ofNat 64 y:=fun y=>by
  apply BitVec.eq_of_toNat_eq
  simp
 have h2:(BitVec.ofInt 64 (x:Int) &&& BitVec.ofInt 64 (m:Int)).toNat=x &&& m:=by
  rw[e1,e1,BitVec.toNat_and,BitVec.toNat_ofNat,BitVec.toNat_ofNat,Nat.mod_eq_of_lt (show x<2 ^ 64 by omega),Nat.mod_eq_of_lt (show m<2 ^ 64 by omega)]
 have h3:x &&& m≤x:=Nat.and_le_left
 show IntKind.i64.wrap (((BitVec.ofInt 64 (x:Int) &&& BitVec.ofInt 64 (m:Int)).toNat:Nat):Int)=_
 rw[h2,wrap64] <;>omega
theorem and_mask (x c w:Nat):x &&& ((2 ^ w - 1) * 2 ^ c)=x / 2 ^ c % 2 ^ w * 2 ^ c:=by
 have e2:x / 2 ^ c % 2 ^ w * 2 ^ c=((x >>> c) % 2 ^ w) <<< c:=by rw[Nat.shiftRight_eq_div_pow,Nat.shiftLeft_eq]
 rw[e2,← Nat.shiftLeft_eq]
 apply Nat.eq_of_testBit_eq
 intro i
 rw[Nat.testBit_and,Nat.testBit_shiftLeft,Nat.testBit_shiftLeft,Nat.testBit_mod_two_pow,Nat.testBit_shiftRight,Nat.testBit_two_pow_sub_one]
 by_cases h:i≥c
 ·rw[show c+(i - c)=i by omega]
  cases x.testBit i <;>simp
 ·simp[h]
theorem exp_zero (x:Nat) (hx:x<4294967296):(intBits BinOp.and .i64 (x:Int) 2139095040==0)=decide (x % 2147483648<8388608):=by
 have h1:=and_nat (m:=2139095040) hx (by omega)
 have h2:=and_mask x 23 8
 have h1:intBits BinOp.and .i64 (x:Int) 2139095040=((x &&& 2139095040:Nat):Int):=h1
 have h2:x &&& 2139095040=x / 8388608 % 256 * 8388608:=h2
 rw[h1,h2,Bool.eq_iff_iff]
 simp only[beq_iff_eq,decide_eq_true_eq]
 omega
theorem sign_bits (x:Nat) (hx:x<4294967296):intBits BinOp.and .i64 (x:Int) 2147483648=((x / 2147483648 * 2147483648:Nat):Int):=by
 have h1:=and_nat (m:=2147483648) hx (by omega)
 have h2:=and_mask x 31 1
 have h1:intBits BinOp.and .i64 (x:Int) 2147483648=((x &&& 2147483648:Nat):Int):=h1
 have h2:x &&& 2147483648=x / 2147483648 % 2 * 2147483648:=h2
 have h3:x / 2147483648 % 2=x / 2147483648:=by omega
 rw[h1,h2,h3]
end Go.Desk
end
section
namespace Go.Proofs.YtokonabdnlckdaaGreat.DA
open Go Go.Desk
def bodyOf (f:Func):Code:=match f.body with
 | some c=>c
 | none => .skip
def tyTab:List (Nat × TD):=[
 (84,⟨false,1,8,[.leaf],[.flt .f64 0],.flt .f64⟩),
 (95,⟨false,1,8,[.leaf],[.int .u64 0],.int .u64⟩)]
noncomputable def c169:Code:=bodyOf Tryz.f169
noncomputable def fnTab:List (Nat × FD):=[
 (168,.ext (pF64frombits)),
 (169,.code c169 [.val] [] [(2,none)] [(0,[0]),(1,[0])]),
 (174,.ext (pF64bits))]
noncomputable def E:Env:=⟨fun t=>lookT tyTab t,lookF fnTab⟩
noncomputable def fdAt (n:Nat):FD:=match lookF fnTab n with
 | some d=>d
 | none => .ext fun _=>none
noncomputable def keepAt (n:Nat):List (Nat × List Nat):=match lookF fnTab n with
 | some d=>d.keep
 | none=>[]
theorem tysOk:TysOk Tryz.prog E:=tysOk_of (l:=tyTab) (fun _=>rfl) (by kernel_rfl)
theorem ft168:FnTab Tryz.prog E 168 (.ext (pF64frombits)):=ext_pF64frombits Tryz.func168 (by kernel_rfl) (by kernel_rfl) (by kernel_rfl) (by kernel_rfl)
theorem ft169:FnTab Tryz.prog E 169 (fdAt 169):=fnTab_code (c:=c169) (modes:=(fdAt 169).ms) (outs:=(fdAt 169).os) (results:=(fdAt 169).rs) (keep:=(fdAt 169).keep) Tryz.func169 (by kernel_rfl) (by kernel_rfl) (by kernel_rfl)
theorem ft174:FnTab Tryz.prog E 174 (.ext (pF64bits)):=ext_pF64bits Tryz.func174 (by kernel_rfl) (by kernel_rfl) (by kernel_rfl) (by kernel_rfl)
theorem allFns:AllFns Tryz.prog E fnTab:=.cons ft168 (.cons ft169 (.cons ft174 (.nil)))
theorem fnOk:∀ f fd,E.fn f=some fd→FnTab Tryz.prog E f fd:=fnTab_of (l:=fnTab) (fun _=>rfl) allFns
end Go.Proofs.YtokonabdnlckdaaGreat.DA
section
namespace Go.Proofs.YtokonabdnlckdaaGreat.DA
open Go Go.Desk
set_option linter.unusedVariables false
noncomputable def x168.w:FnW E:=xF64frombits.w 168 (by kernel_rfl)
noncomputable def x174.w:FnW E:=xF64bits.w 174 (by kernel_rfl)
def f169:Nat→Nat→Option (Nat)
 | 0,_=>none
 | n+1,x1 =>
   bd (xF64bits n x1) fun r2 =>
   let i3:Int:=r2
   bd (xF64frombits n (intBits BinOp.andNot IntKind.u64 i3 (9223372036854775808:Int))) fun r4 =>
   let x5:Nat:=r4
   some x5
def sg_f:Sig (Nat) where
 pk:=fun v=>[.flt v]
 up:=fun ls=>match ls with
  | [.flt a0]=>some a0
  | _=>none
 ok:=by
  intro ls v h
  split at h
  ·cases h;rfl
  ·cases h
def f169.P:List Arg:=[⟨.val,⟨false,[.leaf],[.flt .f64 0]⟩⟩]
def f169.A:RAlt (Nat):=.one ⟨[⟨false,[.leaf],[.flt .f64 0]⟩],[none]⟩ sg_f
def f169.F (n:Nat) (v:Nat):=f169 n v
noncomputable def f169.O (n:Nat):Orc:=orcOf (E:=E) [x168.w,x174.w] [] n
theorem f169.ok:∀ n v x,f169.F n v=some x→evalFn E n 169 (flAs f169.P (sg_f.pk v))=some (f169.A.enc x) :=
 fn_pure (modes:=(fdAt 169).ms) (outs:=(fdAt 169).os) (results:=(fdAt 169).rs) f169.O (c:=c169) (keep:=keepAt 169) (by kernel_rfl) (fun n=>orcOf_cf _ _ n) (fun n=>lpOk_of (bs:=[]) (by kernel_rfl) .nil) (fun _=>rfl) (fun _ _=>by kernel_rfl)
noncomputable def f169.w:FnW E:=fnW 169 f169.P sg_f f169.A f169.F f169.ok
end Go.Proofs.YtokonabdnlckdaaGreat.DA
end
namespace Go.Proofs.YtokonabdnlckdaaGreat.DA
open Go Go.Desk
theorem absOk:ExtOk Tryz.prog 169 pAbs:=ext_pAbs_of Tryz.checked.mixed tysOk fnOk
 (fun x hN hx=>⟨3,f169.ok 3 x _ (abs_plain 1 hN)⟩)
 ⟨5,by kernel_rfl⟩
end Go.Proofs.YtokonabdnlckdaaGreat.DA
end
section
namespace Go.Proofs.YtokonabdnlckdaaGreat.DC
open Go Go.Desk
def bodyOf (f:Func):Code:=match f.body with
 | some c=>c
 | none => .skip
def tyTab:List (Nat × TD):=[
 (84,⟨false,1,8,[.leaf],[.flt .f64 0],.flt .f64⟩),
 (95,⟨false,1,8,[.leaf],[.int .u64 0],.int .u64⟩)]
noncomputable def c163:Code:=bodyOf Tryz.f163
noncomputable def fnTab:List (Nat × FD):=[
 (163,.code c163 [.val,.val] [] [(4,none)] [(0,[0,1]),(1,[0,1])]),
 (168,.ext (pF64frombits)),
 (174,.ext (pF64bits))]
noncomputable def E:Env:=⟨fun t=>lookT tyTab t,lookF fnTab⟩
noncomputable def fdAt (n:Nat):FD:=match lookF fnTab n with
 | some d=>d
 | none => .ext fun _=>none
noncomputable def keepAt (n:Nat):List (Nat × List Nat):=match lookF fnTab n with
 | some d=>d.keep
 | none=>[]
theorem tysOk:TysOk Tryz.prog E:=tysOk_of (l:=tyTab) (fun _=>rfl) (by kernel_rfl)
theorem ft163:FnTab Tryz.prog E 163 (fdAt 163):=fnTab_code (c:=c163) (modes:=(fdAt 163).ms) (outs:=(fdAt 163).os) (results:=(fdAt 163).rs) (keep:=(fdAt 163).keep) Tryz.func163 (by kernel_rfl) (by kernel_rfl) (by kernel_rfl)
theorem ft168:FnTab Tryz.prog E 168 (.ext (pF64frombits)):=ext_pF64frombits Tryz.func168 (by kernel_rfl) (by kernel_rfl) (by kernel_rfl) (by kernel_rfl)
theorem ft174:FnTab Tryz.prog E 174 (.ext (pF64bits)):=ext_pF64bits Tryz.func174 (by kernel_rfl) (by kernel_rfl) (by kernel_rfl) (by kernel_rfl)
theorem allFns:AllFns Tryz.prog E fnTab:=.cons ft163 (.cons ft168 (.cons ft174 (.nil)))
theorem fnOk:∀ f fd,E.fn f=some fd→FnTab Tryz.prog E f fd:=fnTab_of (l:=fnTab) (fun _=>rfl) allFns
end Go.Proofs.YtokonabdnlckdaaGreat.DC
section
namespace Go.Proofs.YtokonabdnlckdaaGreat.DC
open Go Go.Desk
set_option linter.unusedVariables false
noncomputable def x168.w:FnW E:=xF64frombits.w 168 (by kernel_rfl)
noncomputable def x174.w:FnW E:=xF64bits.w 174 (by kernel_rfl)
def f163:Nat→Nat→Nat→Option (Nat)
 | 0,_,_=>none
 | n+1,x1,x2 =>
   bd (xF64bits n x1) fun r3 =>
   let i4:Int:=r3
   bd (xF64bits n x2) fun r5 =>
   let i6:Int:=r5
   bd (xF64frombits n (intBits BinOp.or IntKind.u64 (intBits BinOp.andNot IntKind.u64 i4 (9223372036854775808:Int)) (intBits BinOp.and IntKind.u64 i6 (9223372036854775808:Int)))) fun r7 =>
   let x8:Nat:=r7
   some x8
def sg_ff:Sig (Nat × Nat) where
 pk:=fun v=>[.flt v.1,.flt v.2]
 up:=fun ls=>match ls with
  | [.flt a0,.flt a1]=>some (a0,a1)
  | _=>none
 ok:=by
  intro ls v h
  split at h
  ·cases h;rfl
  ·cases h
def sg_f:Sig (Nat) where
 pk:=fun v=>[.flt v]
 up:=fun ls=>match ls with
  | [.flt a0]=>some a0
  | _=>none
 ok:=by
  intro ls v h
  split at h
  ·cases h;rfl
  ·cases h
def f163.P:List Arg:=[⟨.val,⟨false,[.leaf],[.flt .f64 0]⟩⟩,⟨.val,⟨false,[.leaf],[.flt .f64 0]⟩⟩]
def f163.A:RAlt (Nat):=.one ⟨[⟨false,[.leaf],[.flt .f64 0]⟩],[none,none]⟩ sg_f
def f163.F (n:Nat) (v:Nat × Nat):=f163 n v.1 v.2
noncomputable def f163.O (n:Nat):Orc:=orcOf (E:=E) [x168.w,x174.w] [] n
theorem f163.ok:∀ n v x,f163.F n v=some x→evalFn E n 163 (flAs f163.P (sg_ff.pk v))=some (f163.A.enc x) :=
 fn_pure (modes:=(fdAt 163).ms) (outs:=(fdAt 163).os) (results:=(fdAt 163).rs) f163.O (c:=c163) (keep:=keepAt 163) (by kernel_rfl) (fun n=>orcOf_cf _ _ n) (fun n=>lpOk_of (bs:=[]) (by kernel_rfl) .nil) (fun _=>rfl) (fun _ _=>by kernel_rfl)
noncomputable def f163.w:FnW E:=fnW 163 f163.P sg_ff f163.A f163.F f163.ok
end Go.Proofs.YtokonabdnlckdaaGreat.DC
end
namespace Go.Proofs.YtokonabdnlckdaaGreat.DC
open Go Go.Desk
theorem signOk:ExtOk Tryz.prog 163 pCopysign:=ext_pCopysign_of Tryz.checked.mixed tysOk fnOk
 (fun x s hx hs hx' hs'=>⟨3,f163.ok 3 (x,s) _ (copysign_plain 1 hx hs hx' hs')⟩)
end Go.Proofs.YtokonabdnlckdaaGreat.DC
end
noncomputable section
namespace Go.Proofs.YtokonabdnlckdaaGreat.D
open Go Go.Desk
def bodyOf (f:Func):Code:=match f.body with
 | some c=>c
 | none => .skip
def tyTab:List (Nat × TD):=[
 (2,⟨false,1,8,[.leaf],[.int .i64 0],.int .i64⟩),
 (3,⟨false,1,8,[.leaf],[.int .i64 0],.int .i64⟩),
 (4,⟨false,1,1,[.leaf],[.bool false],.bool⟩),
 (24,⟨false,1,24,[.sl .own [.leaf,.leaf,.sl .own [.leaf]]],[.lst 0 []],.slc 68⟩),
 (25,⟨false,1,24,[.sl .own [.sl .own [.leaf,.leaf,.sl .own [.leaf]],.leaf,.leaf,.leaf,.leaf]],[.lst 0 []],.slc 57⟩),
 (27,⟨true,2,48,[.sl .own [.leaf,.leaf,.sl .own [.leaf]],.sl .own [.sl .own [.leaf,.leaf,.sl .own [.leaf]],.leaf,.leaf,.leaf,.leaf]],[.lst 0 [],.lst 0 []],.st [(0,24),(1,25)]⟩),
 (30,⟨false,1,24,[.sl .own [.leaf]],[.lst 0 []],.slc 55⟩),
 (37,⟨false,1,24,[.sl .own [.leaf,.leaf,.sl .own [.leaf]]],[.lst 0 []],.slc 118⟩),
 (38,⟨false,1,24,[.sl .own [.sl .own [.leaf,.leaf,.sl .own [.leaf]],.leaf,.leaf,.leaf,.leaf]],[.lst 0 []],.slc 122⟩),
 (40,⟨true,2,48,[.sl .own [.leaf,.leaf,.sl .own [.leaf]],.sl .own [.sl .own [.leaf,.leaf,.sl .own [.leaf]],.leaf,.leaf,.leaf,.leaf]],[.lst 0 [],.lst 0 []],.st [(0,37),(1,38)]⟩),
 (53,⟨false,1,24,[.sl .own [.sl .own [.leaf],.leaf,.leaf,.leaf,.leaf]],[.lst 0 []],.slc 60⟩),
 (54,⟨false,1,24,[.sl .own [.leaf,.leaf,.sl .own [.leaf]]],[.lst 0 []],.slc 136⟩),
 (55,⟨false,1,4,[.leaf],[.flt .f32 0],.flt .f32⟩),
 (57,⟨true,5,40,[.sl .own [.leaf,.leaf,.sl .own [.leaf]],.leaf,.leaf,.leaf,.leaf],[.lst 0 [],.int .i64 0,.flt .f32 0,.bool false,.bool false],.st [(0,54),(1,2),(2,55),(3,4),(4,4)]⟩),
 (60,⟨true,5,40,[.sl .own [.leaf],.leaf,.leaf,.leaf,.leaf],[.lst 0 [],.int .i64 0,.flt .f32 0,.bool false,.bool false],.st [(0,30),(1,2),(2,55),(3,4),(4,4)]⟩),
 (68,⟨true,3,40,[.leaf,.leaf,.sl .own [.leaf]],[.int .i64 0,.int .i64 0,.lst 0 []],.st [(0,2),(1,2),(2,30)]⟩),
 (74,⟨false,1,8,[.leaf],[.nil],.ptr 27⟩),
 (79,⟨false,1,8,[.leaf],[.nil],.ptr 57⟩),
 (84,⟨false,1,8,[.leaf],[.flt .f64 0],.flt .f64⟩),
 (89,⟨false,1,24,[.sl .own [.sl .own [.sl .own [.leaf]]]],[.lst 0 []],.slc 90⟩),
 (90,⟨false,1,24,[.sl .own [.sl .own [.leaf]]],[.lst 0 []],.slc 30⟩),
 (95,⟨false,1,8,[.leaf],[.int .u64 0],.int .u64⟩),
 (106,⟨false,1,24,[.sl .own [.leaf]],[.lst 0 []],.slc 4⟩),
 (118,⟨true,3,40,[.leaf,.leaf,.sl .own [.leaf]],[.int .i64 0,.int .i64 0,.lst 0 []],.st [(0,2),(1,2),(2,30)]⟩),
 (120,⟨false,1,24,[.sl .own [.leaf,.leaf,.sl .own [.leaf]]],[.lst 0 []],.slc 190⟩),
 (122,⟨true,5,40,[.sl .own [.leaf,.leaf,.sl .own [.leaf]],.leaf,.leaf,.leaf,.leaf],[.lst 0 [],.int .i64 0,.flt .f32 0,.bool false,.bool false],.st [(0,120),(1,2),(2,55),(3,4),(4,4)]⟩),
 (123,⟨false,1,24,[.sl .own [.leaf]],[.lst 0 []],.slc 2⟩),
 (136,⟨true,3,40,[.leaf,.leaf,.sl .own [.leaf]],[.int .i64 0,.int .i64 0,.lst 0 []],.st [(0,2),(1,2),(2,30)]⟩),
 (138,⟨false,1,8,[.leaf],[.nil],.ptr 136⟩),
 (156,⟨true,5,20,[.leaf,.leaf,.leaf,.leaf,.leaf],[.flt .f32 0,.flt .f32 0,.flt .f32 0,.flt .f32 0,.flt .f32 0],.st [(0,55),(1,55),(2,55),(3,55),(4,55)]⟩),
 (158,⟨true,4,16,[.leaf,.leaf,.leaf,.leaf],[.flt .f32 0,.flt .f32 0,.flt .f32 0,.flt .f32 0],.st [(0,55),(1,55),(2,55),(3,55)]⟩),
 (161,⟨false,1,8,[.leaf],[.nil],.ptr 156⟩),
 (163,⟨true,3,12,[.leaf,.leaf,.leaf],[.flt .f32 0,.flt .f32 0,.flt .f32 0],.st [(0,55),(1,55),(2,55)]⟩),
 (165,⟨true,5,20,[.leaf,.leaf,.leaf,.leaf,.leaf],[.flt .f32 0,.flt .f32 0,.flt .f32 0,.flt .f32 0,.flt .f32 0],.st [(0,163),(3,55),(4,55)]⟩),
 (171,⟨true,4,40,[.leaf,.leaf,.leaf,.sl .own [.leaf]],[.flt .f32 0,.flt .f32 0,.flt .f32 0,.lst 0 []],.st [(0,55),(1,55),(2,55),(3,30)]⟩),
 (174,⟨false,1,8,[.leaf],[.int .u64 0],.int .u64⟩),
 (186,⟨false,1,4,[.leaf],[.int .u32 0],.int .u32⟩),
 (190,⟨true,3,40,[.leaf,.leaf,.sl .own [.leaf]],[.int .i64 0,.int .i64 0,.lst 0 []],.st [(0,2),(1,2),(2,30)]⟩),
 (196,⟨false,1,8,[.leaf],[.nil],.ptr 163⟩)]
def c5:Code:=bodyOf Tryz.f5
def c9:Code:=bodyOf Tryz.f9
def c10:Code:=bodyOf Tryz.f10
def c14:Code:=bodyOf Tryz.f14
def c16:Code:=bodyOf Tryz.f16
def c17:Code:=bodyOf Tryz.f17
def c18:Code:=bodyOf Tryz.f18
def c19:Code:=bodyOf Tryz.f19
def c20:Code:=bodyOf Tryz.f20
def c21:Code:=bodyOf Tryz.f21
def c22:Code:=bodyOf Tryz.f22
def c25:Code:=bodyOf Tryz.f25
def c26:Code:=bodyOf Tryz.f26
def c27:Code:=bodyOf Tryz.f27
def c28:Code:=bodyOf Tryz.f28
def c29:Code:=bodyOf Tryz.f29
def c31:Code:=bodyOf Tryz.f31
def c32:Code:=bodyOf Tryz.f32
def c34:Code:=bodyOf Tryz.f34
def c37:Code:=bodyOf Tryz.f37
def c38:Code:=bodyOf Tryz.f38
def c40:Code:=bodyOf Tryz.f40
def c41:Code:=bodyOf Tryz.f41
def c42:Code:=bodyOf Tryz.f42
def c43:Code:=bodyOf Tryz.f43
def c44:Code:=bodyOf Tryz.f44
def c46:Code:=bodyOf Tryz.f46
def c47:Code:=bodyOf Tryz.f47
def c48:Code:=bodyOf Tryz.f48
def c49:Code:=bodyOf Tryz.f49
def c50:Code:=bodyOf Tryz.f50
def c51:Code:=bodyOf Tryz.f51
def c52:Code:=bodyOf Tryz.f52
def c53:Code:=bodyOf Tryz.f53
def c54:Code:=bodyOf Tryz.f54
def c55:Code:=bodyOf Tryz.f55
def c56:Code:=bodyOf Tryz.f56
def c57:Code:=bodyOf Tryz.f57
def c62:Code:=bodyOf Tryz.f62
def c63:Code:=bodyOf Tryz.f63
def c64:Code:=bodyOf Tryz.f64
def c65:Code:=bodyOf Tryz.f65
def c66:Code:=bodyOf Tryz.f66
def c67:Code:=bodyOf Tryz.f67
def c68:Code:=bodyOf Tryz.f68
def c69:Code:=bodyOf Tryz.f69
def c70:Code:=bodyOf Tryz.f70
def c71:Code:=bodyOf Tryz.f71
def c72:Code:=bodyOf Tryz.f72
def c73:Code:=bodyOf Tryz.f73
def c78:Code:=bodyOf Tryz.f78
def c79:Code:=bodyOf Tryz.f79
def c80:Code:=bodyOf Tryz.f80
def c83:Code:=bodyOf Tryz.f83
def c84:Code:=bodyOf Tryz.f84
def c85:Code:=bodyOf Tryz.f85
def c86:Code:=bodyOf Tryz.f86
def c87:Code:=bodyOf Tryz.f87
def c88:Code:=bodyOf Tryz.f88
def c89:Code:=bodyOf Tryz.f89
def c90:Code:=bodyOf Tryz.f90
def c91:Code:=bodyOf Tryz.f91
def c92:Code:=bodyOf Tryz.f92
def c93:Code:=bodyOf Tryz.f93
def c94:Code:=bodyOf Tryz.f94
def c99:Code:=bodyOf Tryz.f99
def c100:Code:=bodyOf Tryz.f100
def c101:Code:=bodyOf Tryz.f101
def c102:Code:=bodyOf Tryz.f102
def c103:Code:=bodyOf Tryz.f103
def c104:Code:=bodyOf Tryz.f104
def c105:Code:=bodyOf Tryz.f105
def c107:Code:=bodyOf Tryz.f107
def c108:Code:=bodyOf Tryz.f108
def c109:Code:=bodyOf Tryz.f109
def c110:Code:=bodyOf Tryz.f110
def c111:Code:=bodyOf Tryz.f111
def c112:Code:=bodyOf Tryz.f112
def c113:Code:=bodyOf Tryz.f113
def c114:Code:=bodyOf Tryz.f114
def c115:Code:=bodyOf Tryz.f115
def c116:Code:=bodyOf Tryz.f116
def c117:Code:=bodyOf Tryz.f117
def c118:Code:=bodyOf Tryz.f118
def c119:Code:=bodyOf Tryz.f119
def c120:Code:=bodyOf Tryz.f120
def c121:Code:=bodyOf Tryz.f121
def c122:Code:=bodyOf Tryz.f122
def c123:Code:=bodyOf Tryz.f123
def c127:Code:=bodyOf Tryz.f127
def c129:Code:=bodyOf Tryz.f129
def c130:Code:=bodyOf Tryz.f130
def c131:Code:=bodyOf Tryz.f131
def c132:Code:=bodyOf Tryz.f132
def c133:Code:=bodyOf Tryz.f133
def c134:Code:=bodyOf Tryz.f134
def c135:Code:=bodyOf Tryz.f135
def c136:Code:=bodyOf Tryz.f136
def c137:Code:=bodyOf Tryz.f137
def c138:Code:=bodyOf Tryz.f138
def c139:Code:=bodyOf Tryz.f139
def c140:Code:=bodyOf Tryz.f140
def c141:Code:=bodyOf Tryz.f141
def c142:Code:=bodyOf Tryz.f142
def c143:Code:=bodyOf Tryz.f143
def c144:Code:=bodyOf Tryz.f144
def c147:Code:=bodyOf Tryz.f147
def c148:Code:=bodyOf Tryz.f148
def c149:Code:=bodyOf Tryz.f149
def c150:Code:=bodyOf Tryz.f150
def c151:Code:=bodyOf Tryz.f151
def c152:Code:=bodyOf Tryz.f152
def c153:Code:=bodyOf Tryz.f153
def c154:Code:=bodyOf Tryz.f154
def c155:Code:=bodyOf Tryz.f155
def c156:Code:=bodyOf Tryz.f156
def c160:Code:=bodyOf Tryz.f160
def c161:Code:=bodyOf Tryz.f161
def c162:Code:=bodyOf Tryz.f162
def c164:Code:=bodyOf Tryz.f164
def c165:Code:=bodyOf Tryz.f165
def c166:Code:=bodyOf Tryz.f166
def c167:Code:=bodyOf Tryz.f167
def c170:Code:=bodyOf Tryz.f170
def c171:Code:=bodyOf Tryz.f171
def c172:Code:=bodyOf Tryz.f172
def c173:Code:=bodyOf Tryz.f173
def c175:Code:=bodyOf Tryz.f175
def c176:Code:=bodyOf Tryz.f176
def c177:Code:=bodyOf Tryz.f177
def c178:Code:=bodyOf Tryz.f178
def c180:Code:=bodyOf Tryz.f180
def fnTab:List (Nat × FD):=[
 (5,.code c5 [.val,.val,.val] [] [(6,none)] [(0,[0,1,2]),(1,[1,2,3]),(2,[1,2,3,7]),(3,[1,2,3,7]),(4,[]),(5,[1,2,3]),(6,[1,2,3,8,9,10]),(7,[1,2,3,8,9,10,11]),(8,[1,2,3,8,9,10,11,12,13,14]),(9,[]),(10,[1,2,3,8,9,10,11,12,13,14]),(11,[]),(12,[1,2,3,8,9,10,11,12,13,14]),(13,[1,2,3,8,9,10,11,12,13,14,15]),(14,[1,2,3,8,9,10,12,13,14,15]),(15,[]),(16,[1,2,3,8,9,10,12,13]),(17,[1,2,3,8,9,10,12,13,16]),(18,[1,2,3,8,9,10,12,13,16]),(19,[1,2,3,8,9,10,12,13,16]),(20,[1,2,3,8,9,10,12,13,16,17]),(21,[1,2,3,8,9,10,12,13,16,17]),(22,[]),(23,[1,2,3,8,9,10,12,13,16,17]),(24,[1,2,3,8,9,10,12,13,16,17]),(25,[]),(26,[1,2,3,8,9,10,12,13,16,17]),(27,[]),(28,[1,2,3,8,9,10,12,13,16]),(29,[8,9,10,12,13,16,18,19,20]),(30,[]),(31,[12,13,16]),(32,[12,13,16,17]),(33,[13,16,17]),(34,[]),(35,[13,16,17]),(36,[16,17]),(37,[]),(38,[16,17]),(39,[]),(40,[])]),
 (9,.code c9 [.val,.val] [] [(4,none),(5,none),(6,none)] [(0,[0,1]),(1,[1,2]),(2,[]),(3,[1,2]),(4,[1,2,7]),(5,[1,2,7,21,22,23]),(6,[1,2,7,21,22,23]),(7,[1,2,7,8,9,21,22,23]),(8,[1,2,7,21,22,23]),(9,[1,7]),(10,[10,11]),(1000005,[1,7])]),
 (10,.code c10 [.val,.val,.val] [] [(6,none),(7,none),(8,none)] [(0,[0,1,2]),(1,[1,2,3]),(2,[]),(3,[1,3])]),
 (14,.code c14 [.val,.val] [] [(4,none)] [(0,[0,1]),(1,[1,2]),(2,[1,2]),(3,[]),(4,[1,2]),(5,[1]),(6,[]),(7,[1])]),
 (16,.code c16 [.val] [] [(2,some (true,2))] [(0,[0]),(1,[1,2]),(2,[1,2,3]),(3,[1,2,3]),(4,[2,3])]),
 (17,.code c17 [.val,.val] [] [(4,none)] [(0,[0,1]),(1,[0,1]),(2,[]),(3,[0,1]),(4,[0,1,5]),(5,[0,1,5]),(6,[0,1,5]),(7,[]),(8,[]),(1000004,[4])]),
 (18,.code c18 [.val,.val] [] [(4,none)] [(0,[0,1]),(1,[2,3]),(2,[]),(3,[2,3]),(4,[]),(5,[])]),
 (19,.code c19 [.io,.val] [2] [(4,none)] [(0,[0,1]),(1,[1,2]),(2,[1,2]),(3,[1,2])]),
 (20,.code c20 [.io,.val] [0] [(4,none)] [(0,[0,1]),(1,[0,1]),(2,[0,1,5]),(3,[0,1,5]),(4,[0,1,5]),(5,[0,1,5]),(6,[0,1]),(1000002,[0,1])]),
 (21,.code c21 [.val,.val] [] [(4,none)] [(0,[0,1]),(1,[0,1]),(2,[0,1,5]),(3,[0,1,5]),(4,[0,1,5]),(5,[]),(6,[0,1,5]),(7,[1]),(1000002,[1,4])]),
 (22,.code c22 [.val,.val,.val] [] [(6,none),(7,none),(8,none)] [(0,[0,1,2]),(1,[1,2,3]),(2,[]),(3,[1,2,3]),(4,[1,2,3,9]),(5,[1,2,3,9,37,38]),(6,[1,2,3,9,37,38]),(7,[1,2,3,9,10,37,38]),(8,[1,2,3,9,37,38]),(9,[1,2,3,9]),(10,[1,2,3,9,11]),(11,[1,2,3,9,11,12]),(12,[1,2,3,9,11,12,13]),(13,[1,2,3,9,11,12,13]),(14,[1,2,3,9,11,12,13]),(15,[1,2,3,9,11,12,13,14]),(16,[1,2,3,9,11,12,13,14,15]),(17,[1,2,3,9,11,12,13,14,15,68,69]),(18,[1,2,3,9,11,12,13,14,15,68,69]),(19,[1,2,3,9,11,12,13,14,15,16,68,69]),(20,[1,2,3,9,11,12,13,14,15,16,17,68,69]),(21,[1,2,3,9,11,12,13,14,15,16,18,19,68,69]),(22,[1,2,3,9,11,12,13,14,15,16,18,68,69]),(23,[1,2,3,9,11,12,13,14,15,68,69]),(24,[1,2,3,9,11,12,13,14,15]),(25,[1,2,3,9,11,12,13,20,21]),(26,[1,2,3,9,11,12,13,21]),(27,[11,12]),(1000005,[1,2,3,9,106]),(1000012,[11,12]),(1000017,[1,2,3,9,11,12,13,14,15,106])]),
 (25,.code c25 [.val] [] [(2,none)] [(0,[0]),(1,[1]),(2,[]),(3,[1]),(4,[1,20,21,22]),(5,[1,20,21,22]),(6,[1,4,20,21,22]),(7,[]),(8,[1,20,21,22]),(9,[1]),(10,[1,44,45,46]),(11,[1,44,45,46]),(12,[1,6,44,45,46]),(13,[]),(14,[1,44,45,46]),(15,[]),(1000004,[1,2,69]),(1000010,[2])]),
 (26,.code c26 [.val] [] [(2,none)] [(0,[0]),(1,[0])]),
 (27,.code c27 [.val,.val,.val] [] [(6,none)] [(0,[0,1,2]),(1,[1,2,3]),(2,[1,2,3,7]),(3,[8])]),
 (28,.code c28 [.val,.val] [] [(4,none),(5,none)] [(0,[0,1]),(1,[0,1]),(2,[0,1,6,7]),(3,[0,1,6,7,8]),(4,[0,1,6,7,8,25,26,27]),(5,[0,1,6,7,8,25,26,27]),(6,[0,1,6,7,8,9,10,25,26,27]),(7,[0,1,6,7,8,10,25,26,27]),(8,[0,1,6,7,8,10,11,25,26,27]),(9,[0,1,6,7,8,10,11,13,14,25,26,27]),(10,[0,1,6,7,8,11,13,14,25,26,27,58,59,60]),(11,[0,1,6,7,8,11,13,14,25,26,27,58,59,60]),(12,[0,1,6,7,8,11,13,14,16,17,25,26,27,58,59,60]),(13,[0,1,6,7,8,11,13,14,16,18,25,26,27,58,59,60]),(14,[0,1,6,7,8,11,13,14,16,18,25,26,27,58,59,60]),(15,[0,1,6,7,8,11,13,14,25,26,27,58,59,60]),(16,[0,1,6,7,8,25,26,27]),(17,[6,7]),(1000004,[6,7]),(1000010,[0,1,6,7,8,25,26,27,86,87])]),
 (29,.code c29 [.val,.val,.val] [] [(6,none)] [(0,[0,1,2]),(1,[0,1,2])]),
 (31,.code c31 [.val,.val] [] [(4,none)] [(0,[0,1]),(1,[0,1])]),
 (32,.code c32 [.val] [] [(2,none)] [(0,[0]),(1,[0])]),
 (34,.code c34 [.val] [] [(2,none)] [(0,[0]),(1,[0])]),
 (37,.code c37 [.val] [] [(2,none)] [(0,[0]),(1,[0]),(2,[0,3]),(3,[]),(4,[0,3]),(5,[0,3,27,28]),(6,[0,3,27,28]),(7,[0,3,4,27,28]),(8,[0,3,4,5,27,28]),(9,[]),(10,[0,3,27,28]),(11,[0,3]),(12,[0,3,60,61]),(13,[0,3,60,61]),(14,[0,3,6,60,61]),(15,[]),(16,[0,3,60,61]),(17,[]),(1000005,[0,2,3,100]),(1000012,[2])]),
 (38,.code c38 [.val,.val,.val] [] [(6,none)] [(0,[0,1,2]),(1,[0,1,2])]),
 (40,.code c40 [.val] [] [(2,none)] [(0,[0]),(1,[0])]),
 (41,.code c41 [.val,.val] [] [(4,none)] [(0,[0,1]),(1,[0,1]),(2,[0,1]),(3,[]),(4,[0,1]),(5,[0,1,5]),(6,[0,1,5]),(7,[0,1,5]),(8,[0,1,5]),(9,[]),(10,[1]),(1000005,[1,4])]),
 (42,.code c42 [.val,.val] [] [(4,none)] [(0,[0,1]),(1,[0,1]),(2,[0,1]),(3,[]),(4,[0,1]),(5,[0,1,5]),(6,[0,1,5]),(7,[0,1,5]),(8,[0,1,5]),(9,[]),(10,[1]),(1000005,[1,4])]),
 (43,.code c43 [.val] [] [(2,none)] [(0,[0]),(1,[0])]),
 (44,.code c44 [.val,.io] [1] [(4,some (true,5))] [(0,[0,1]),(1,[0,1,4])]),
 (46,.code c46 [.val,.val] [] [(4,none),(5,none)] [(0,[0,1]),(1,[0,1]),(2,[0,1,6]),(3,[0,1,6,7]),(4,[0,1,6,7,8]),(5,[0,1,6,7,8,23,24]),(6,[0,1,6,7,8,23,24]),(7,[0,1,6,7,8,9,23,24]),(8,[0,1,6,7,8,10,23,24]),(9,[0,1,6,7,8,10,11,23,24]),(10,[0,1,6,7,8,10,11,12,13,23,24]),(11,[0,1,6,7,8,10,11,12,13,14,23,24]),(12,[0,1,6,7,8,10,11,12,13,14,23,24]),(13,[0,1,6,7,8,10,11,12,13,14,23,24]),(14,[0,1,6,7,8,10,11,12,13,14,15,23,24]),(15,[0,1,6,7,8,10,11,12,13,14,15,23,24]),(16,[0,1,6,7,8,23,24]),(17,[6,7]),(1000005,[6,7]),(1000011,[0,1,6,7,8,23,24,80])]),
 (47,.code c47 [.val] [] [(2,none)] [(0,[0]),(1,[0]),(2,[0,3]),(3,[0,3,4]),(4,[0,3,4]),(5,[0,3,4]),(6,[3]),(1000003,[3])]),
 (48,.code c48 [.val] [] [(2,none)] [(0,[0]),(1,[0]),(2,[0,3]),(3,[0,3,4]),(4,[0,3,4]),(5,[0,3,4]),(6,[3]),(1000003,[3])]),
 (49,.code c49 [.val,.val] [] [(4,none)] [(0,[0,1]),(1,[0,1]),(2,[0,1]),(3,[0,1]),(4,[0,1]),(5,[0,1])]),
 (50,.code c50 [.val,.val] [] [(4,none)] [(0,[0,1]),(1,[0,1]),(2,[]),(3,[0,1]),(4,[0,1,5]),(5,[0,1,5]),(6,[0,1,5]),(7,[]),(8,[]),(1000004,[4])]),
 (51,.code c51 [.val,.val] [] [(4,none)] [(0,[0,1]),(1,[0,1]),(2,[]),(3,[0,1]),(4,[0,1,5]),(5,[0,1,5]),(6,[0,1,5]),(7,[]),(8,[]),(1000004,[4])]),
 (52,.code c52 [.io,.val] [0] [(4,none)] [(0,[0,1]),(1,[0,1]),(2,[0,1,5]),(3,[0,1,5]),(4,[0,1,5]),(5,[0,1,5]),(6,[0,1,5]),(7,[0,1,5]),(8,[0,1,5]),(9,[0,1]),(1000002,[0,1])]),
 (53,.code c53 [.io,.val] [0] [(4,none)] [(0,[0,1]),(1,[0,1]),(2,[0,1,5]),(3,[0,1,5]),(4,[0,1,5]),(5,[0,1,5]),(6,[0,1,5]),(7,[0,1,5]),(8,[0,1,5]),(9,[0,1,5]),(10,[0,1,5]),(11,[0,1,5]),(12,[0,1,5]),(13,[0,1]),(1000002,[0,1])]),
 (54,.code c54 [.val] [] [(2,none)] [(0,[0]),(1,[0]),(2,[0,3]),(3,[0,3,4]),(4,[0,3,4]),(5,[0,3,4]),(6,[0,3,4,6]),(7,[0,3,4,7]),(8,[0,3,4,7]),(9,[0,3,4,7]),(10,[3]),(1000003,[3])]),
 (55,.code c55 [.val,.val] [] [(4,none)] [(0,[0,1]),(1,[0,1]),(2,[0]),(3,[1])]),
 (56,.code c56 [.val,.val,.val] [] [(6,none)] [(0,[0,1,2]),(1,[0,1,2]),(2,[0,1,2,7]),(3,[0,1,2,7,18,19]),(4,[0,1,2,7,18,19]),(5,[0,1,2,7,8,18,19]),(6,[0,1,2,7,9,18,19]),(7,[0,1,2,7,9,18,19]),(8,[0,1,2,7,9,18,19,35,36]),(9,[0,1,2,7,9,18,19,35,36]),(10,[0,1,2,7,9,10,18,19,35,36]),(11,[0,1,2,7,9,10,11,18,19,35,36]),(12,[0,1,2,7,9,10,11,18,19,35,36]),(13,[0,1,2,7,9,18,19,35,36]),(14,[0,1,2,7,18,19]),(15,[7]),(1000003,[7]),(1000008,[0,1,2,7,18,19,59,60])]),
 (57,.code c57 [.val,.val,.val] [] [(6,none),(7,none)] [(0,[0,1,2]),(1,[0,1,2]),(2,[0,1,8]),(3,[0,1,8,9]),(4,[0,1,8,9,10]),(5,[0,1,8,9,10]),(6,[0,1,8,9,10]),(7,[0,1,9,10,11,12]),(8,[0,1,8,9,10,12]),(9,[8,9]),(1000004,[8,9])]),
 (62,.code c62 [.val] [] [(2,none)] [(0,[0]),(1,[0])]),
 (63,.code c63 [.val] [] [(2,none)] [(0,[0]),(1,[0]),(2,[]),(3,[0]),(4,[0,8,9,10]),(5,[0,8,9,10]),(6,[0,4,8,9,10]),(7,[]),(8,[0,8,9,10]),(9,[]),(1000004,[2])]),
 (64,.code c64 [.val] [] [(2,none)] [(0,[0]),(1,[0])]),
 (65,.code c65 [.val] [] [(2,none)] [(0,[0]),(1,[0])]),
 (66,.code c66 [.val] [] [(2,none)] [(0,[0]),(1,[0])]),
 (67,.code c67 [.val,.val,.val] [] [(6,none),(7,none)] [(0,[0,1,2]),(1,[0,1,2]),(2,[0,1,8]),(3,[0,1,8,9]),(4,[0,1,8,9,16,17,18]),(5,[0,1,8,9,16,17,18]),(6,[0,1,8,9,10,11,16,17,18]),(7,[0,1,9,12,13,16,17,18]),(8,[0,1,8,9,13,16,17,18]),(9,[0,1,8,9,16,17,18]),(10,[8,9]),(1000004,[8,9])]),
 (68,.code c68 [.val] [] [(2,none)] [(0,[0]),(1,[0]),(2,[0,3]),(3,[0,3,6,7,8]),(4,[0,3,6,7,8]),(5,[0,3,5,6,7,8]),(6,[0,3,6,7,8]),(7,[3]),(1000003,[3])]),
 (69,.code c69 [.val,.val,.val,.val] [] [(8,none)] [(0,[0,1,2,3]),(1,[1,2,3,4]),(2,[1,2,3,4,9]),(3,[1,2,3,4,9,18,19,20]),(4,[1,2,3,4,9,18,19,20]),(5,[1,2,3,4,9,11,18,19,20]),(6,[1,2,3,4,9,11,18,19,20]),(7,[1,2,3,4,9,11,18,19,20,29,30,31]),(8,[1,2,3,4,9,11,18,19,20,29,30,31]),(9,[1,2,3,4,9,11,12,13,18,19,20,29,30,31]),(10,[1,2,3,4,9,11,13,14,18,19,20,29,30,31]),(11,[1,2,3,4,9,11,13,14,18,19,20,29,30,31]),(12,[1,2,3,4,9,11,18,19,20,29,30,31]),(13,[1,2,3,4,9,18,19,20]),(14,[9]),(1000003,[9]),(1000007,[1,2,3,4,9,18,19,20,53,54])]),
 (70,.code c70 [.val] [] [(2,none)] [(0,[0]),(1,[0])]),
 (71,.code c71 [.val] [] [(2,none)] [(0,[0]),(1,[0]),(2,[0,3,4]),(3,[0,3,4,7,8,9]),(4,[0,3,4,7,8,9]),(5,[0,3,4,6,7,8,9]),(6,[0,3,4,7,8,9]),(7,[3,4]),(1000003,[3,4])]),
 (72,.code c72 [.val] [] [(2,none),(3,none)] [(0,[0]),(1,[0]),(2,[]),(3,[0])]),
 (73,.code c73 [.val] [] [(2,none),(3,none),(4,none)] [(0,[0]),(1,[0]),(2,[]),(3,[0])]),
 (78,.code c78 [.val] [] [(2,none)] [(0,[0]),(1,[0]),(2,[0,3]),(3,[0,3]),(4,[0,3]),(5,[]),(6,[0]),(1000002,[0,2])]),
 (79,.code c79 [.val] [] [(2,none)] [(0,[0]),(1,[0]),(2,[0,5,6]),(3,[0,5,6]),(4,[0,3,5,6]),(5,[]),(6,[0,5,6]),(7,[0]),(1000002,[0,2])]),
 (80,.code c80 [.val] [] [(2,none)] [(0,[0]),(1,[0])]),
 (83,.code c83 [.val,.val] [] [(4,none)] [(0,[0,1]),(1,[1,2]),(2,[1]),(3,[]),(4,[1])]),
 (84,.code c84 [.val,.val] [] [(4,none)] [(0,[0,1]),(1,[1,2]),(2,[1]),(3,[]),(4,[1])]),
 (85,.code c85 [.val] [] [(2,none)] [(0,[0]),(1,[0]),(2,[0,3]),(3,[0,3,8,9]),(4,[0,3,8,9]),(5,[0,3,4,8,9]),(6,[0,3,8,9]),(7,[0,3]),(8,[0,3,5]),(9,[0,3,5,23,24]),(10,[0,3,5,23,24]),(11,[0,3,5,6,23,24]),(12,[0,3,5,6,23,24]),(13,[0,3,5,23,24]),(14,[5]),(1000003,[0,3,48]),(1000009,[5])]),
 (86,.code c86 [.val] [] [(2,none)] [(0,[0]),(1,[0])]),
 (87,.code c87 [.val] [] [(2,none),(3,none)] [(0,[0]),(1,[0])]),
 (88,.code c88 [.val] [] [(2,some (true,3))] [(0,[0]),(1,[1,2]),(2,[1,2,3]),(3,[1,2,3]),(4,[1,2,3]),(5,[2,3])]),
 (89,.code c89 [.val] [] [(2,some (true,5))] [(0,[0]),(1,[1,2]),(2,[1,2,3]),(3,[1,2,3]),(4,[1,2,3]),(5,[1,2,3]),(6,[1,2,3]),(7,[2,3])]),
 (90,.code c90 [.val,.val] [] [(4,none)] [(0,[0,1]),(1,[2,3]),(2,[]),(3,[2,3]),(4,[]),(5,[2,3]),(6,[]),(7,[])]),
 (91,.code c91 [.val,.val] [] [(4,none)] [(0,[0,1]),(1,[2,3]),(2,[]),(3,[2,3]),(4,[]),(5,[2,3]),(6,[]),(7,[2,3]),(8,[]),(9,[2,3]),(10,[]),(11,[])]),
 (92,.code c92 [.io,.val] [0] [(4,none)] [(0,[0,1]),(1,[0,1]),(2,[0,1,5]),(3,[0,1,5]),(4,[0,1,5]),(5,[0,1,5]),(6,[0,1,5]),(7,[0,1,5]),(8,[0,1,5]),(9,[0,1]),(1000002,[0,1])]),
 (93,.code c93 [.val,.val] [] [(4,none),(5,none)] [(0,[0,1]),(1,[0,1]),(2,[0,1,6]),(3,[0,1,6]),(4,[]),(5,[0,1,6]),(6,[]),(7,[0,1,6]),(8,[1]),(9,[0,1,6]),(10,[]),(11,[0,1,6]),(12,[]),(13,[0,1,6]),(14,[1]),(15,[])]),
 (94,.code c94 [.val,.val,.val] [] [(6,none),(7,none)] [(0,[0,1,2]),(1,[0,1,2]),(2,[0,1,2,8]),(3,[0,1,2,8,34]),(4,[2,8]),(5,[0,1,2,8,34]),(6,[1,2,8]),(7,[1,2,9]),(8,[10,11]),(9,[0,1,2,8,34]),(10,[1,2,8]),(11,[2,8,12]),(12,[2,8,12,13]),(13,[2,8,12,13,14]),(14,[2,8,12,13,14]),(15,[2,8,12,13,14]),(16,[2,8,12,13,14,15]),(17,[2,8,12,13,14,15]),(18,[12,13]),(19,[0,1,2,8,34]),(20,[1,2,8]),(21,[2,16]),(22,[17,18]),(23,[0,1,2,8,34]),(24,[2,8]),(25,[19]),(26,[0,1,2,8,34]),(27,[2]),(28,[2,21]),(29,[2,21,22]),(30,[2,21,22]),(31,[2,21,22]),(32,[21]),(33,[1,2,8]),(34,[2,23]),(35,[24,25]),(1000013,[12,13]),(1000029,[21])]),
 (99,.code c99 [.val] [] [(2,none)] [(0,[0]),(1,[1]),(2,[1,4]),(3,[1,4]),(4,[1]),(5,[1,4]),(6,[1]),(7,[1,4]),(8,[1]),(9,[1,4]),(10,[1]),(11,[1,4]),(12,[1]),(13,[1,4]),(14,[1]),(15,[])]),
 (100,.code c100 [.val,.val,.val] [] [(6,none),(7,none)] [(0,[0,1,2]),(1,[1,2,3]),(2,[1,2,3,8]),(3,[1,2,3,8,31]),(4,[2,8]),(5,[1,2,3,8,31]),(6,[1,2,8]),(7,[1,2,9]),(8,[10,11]),(9,[1,2,3,8,31]),(10,[1,2,8]),(11,[2,8,12]),(12,[2,8,12,13]),(13,[2,8,12,13,80,81,82]),(14,[2,8,12,13,80,81,82]),(15,[2,8,12,13,15,80,81,82]),(16,[2,8,12,13,15,16,80,81,82]),(17,[2,8,12,13,15,16,80,81,82]),(18,[2,8,12,13,80,81,82]),(19,[12,13]),(20,[1,2,3,8,31]),(21,[1,2,8]),(22,[2,17]),(23,[17,18]),(24,[1,2,3,8,31]),(25,[2,8]),(26,[20]),(27,[1,2,3,8,31]),(28,[2]),(29,[2,22]),(30,[2,22,156,157,158]),(31,[2,22,156,157,158]),(32,[2,22,24,156,157,158]),(33,[2,22,156,157,158]),(34,[22]),(35,[1,2,8]),(36,[25,26]),(1000013,[12,13]),(1000030,[22])]),
 (101,.code c101 [.val] [] [(2,none)] [(0,[0]),(1,[1]),(2,[1,4]),(3,[]),(4,[1,4]),(5,[1]),(6,[1,4]),(7,[]),(8,[1,4]),(9,[1]),(10,[])]),
 (102,.code c102 [.val,.val] [] [(4,none)] [(0,[0,1]),(1,[0,1]),(2,[0,1,5]),(3,[0,1,5,6]),(4,[0,1,5,6,11,12,13]),(5,[0,1,5,6,11,12,13]),(6,[0,1,5,6,7,8,11,12,13]),(7,[0,1,5,6,11,12,13]),(8,[6]),(1000004,[6])]),
 (103,.code c103 [.val] [] [(2,none)] [(0,[0]),(1,[0]),(2,[]),(3,[0]),(4,[]),(5,[0]),(6,[3,4]),(7,[3,4,5]),(8,[3,4,5]),(9,[3,4,5]),(10,[4]),(11,[4,6]),(12,[4,6]),(13,[4,6]),(14,[4]),(1000007,[4]),(1000011,[4])]),
 (104,.code c104 [.val] [] [(2,none)] [(0,[0]),(1,[0]),(2,[3]),(3,[]),(4,[3]),(5,[]),(6,[3])]),
 (105,.code c105 [.val] [] [(2,none)] [(0,[0]),(1,[0]),(2,[]),(3,[0])]),
 (107,.code c107 [.val] [] [(2,none)] [(0,[0]),(1,[0]),(2,[0,3]),(3,[0,3,4]),(4,[0]),(5,[0,3]),(6,[0,3,4]),(7,[0,3]),(8,[0,3,4]),(9,[]),(10,[0]),(11,[0,5])]),
 (108,.code c108 [.val] [] [(2,none)] [(0,[0]),(1,[0])]),
 (109,.code c109 [.val,.val] [] [(4,none)] [(0,[0,1]),(1,[0,1]),(2,[1]),(3,[]),(4,[1])]),
 (110,.code c110 [.val,.val] [] [(4,none)] [(0,[0,1]),(1,[0,1]),(2,[0,1]),(3,[]),(4,[0,1]),(5,[0,1,5]),(6,[0,1,5]),(7,[0,1,5]),(8,[0,1,5]),(9,[]),(10,[1]),(1000005,[1,4])]),
 (111,.code c111 [.val] [] [(2,none)] [(0,[0]),(1,[0])]),
 (112,.code c112 [.val] [] [(2,none)] [(0,[0]),(1,[0]),(2,[0]),(3,[0]),(4,[]),(5,[0]),(6,[]),(7,[0]),(8,[3]),(9,[3,4]),(10,[3,4,5]),(11,[3,4,5]),(12,[3,4,5]),(13,[4]),(14,[4,6]),(15,[4,6]),(16,[4,6]),(17,[4]),(1000010,[4]),(1000014,[4])]),
 (113,.code c113 [.val] [] [(2,none)] [(0,[0]),(1,[0])]),
 (114,.code c114 [.val] [] [(2,none)] [(0,[0]),(1,[0]),(2,[0,3]),(3,[0,3,4]),(4,[0,3,4]),(5,[0,3,4]),(6,[3]),(1000003,[3])]),
 (115,.code c115 [.val] [] [(2,none)] [(0,[0]),(1,[0]),(2,[0,3]),(3,[0,3,4]),(4,[0,3,4]),(5,[0,3,4]),(6,[3]),(1000003,[3])]),
 (116,.code c116 [.val,.val] [] [(4,none)] [(0,[0,1]),(1,[0,1]),(2,[]),(3,[0,1]),(4,[0,1,5]),(5,[0,1,5]),(6,[0,1,5]),(7,[]),(8,[]),(1000004,[4])]),
 (117,.code c117 [.val,.val] [] [(4,none)] [(0,[0,1]),(1,[0,1]),(2,[0,1,5]),(3,[0,1,5,6]),(4,[0,1,5,6]),(5,[0,1,5,6]),(6,[5]),(1000003,[5])]),
 (118,.code c118 [.val,.val,.val,.val,.val] [] [(10,none),(11,some (true,4))] [(0,[0,1,2,3,4]),(1,[0,1,2,4,8,11]),(2,[0,1,2,4,8,11,12]),(3,[0,1,2,4,8,11,12,13]),(4,[0,1,2,4,8,11,12,13]),(5,[0,1,2,4,8,11,12,13]),(6,[0,1,2,4,8,11,12,13,14,15]),(7,[0,1,2,4,8,11,12,13,15]),(8,[8,11,12]),(1000003,[8,11,12])]),
 (119,.code c119 [.val] [] [(2,none)] [(0,[0]),(1,[0]),(2,[0,3]),(3,[3]),(4,[0])]),
 (120,.code c120 [.val,.val,.val] [] [(6,none),(7,some (true,5))] [(0,[0,1,2]),(1,[1,2,3,7]),(2,[1,2,3,7,8]),(3,[1,2,3,7,8,9]),(4,[1,2,3,7,8,9]),(5,[1,2,3,7,8,9]),(6,[1,2,3,7,8,9]),(7,[3,7,8]),(1000003,[3,7,8])]),
 (121,.code c121 [.val,.val] [] [(4,none),(5,none)] [(0,[0,1]),(1,[0,1]),(2,[]),(3,[0,1]),(4,[0,1,6]),(5,[0,1,6,7]),(6,[0,1,6,7]),(7,[0,1,6,7]),(8,[6]),(1000005,[6])]),
 (122,.code c122 [.val] [] [(2,none)] [(0,[0]),(1,[0]),(2,[]),(3,[0]),(4,[]),(5,[0]),(6,[0,3])]),
 (123,.code c123 [.val,.val] [] [(4,none),(5,some (true,4)),(6,none)] [(0,[0,1]),(1,[1,2,5]),(2,[5]),(3,[1,2,5]),(4,[1,2,5,7]),(5,[1,2,5,7,8]),(6,[1,2,5,7,8,9]),(7,[1,2,5,7,8,9]),(8,[1,2,5,7,8,9]),(9,[1,2,5,7,8,9]),(10,[1,2,5,7,8,9,10]),(11,[1,2,5,7,8,9,10,11]),(12,[1,2,5,7,8,9,10,11]),(13,[1,2,5,7,8,9,10,11]),(14,[1,2,5,7,8,9,11]),(15,[1,2,5,7,8,9,10]),(16,[1,2,5,7,8,9,10,12]),(17,[1,2,5,7,8,9,10]),(18,[1,2,5,7,8,9,12]),(19,[1,2,5,7,8,9,12,13]),(20,[1,2,5,7,8,9,12]),(21,[1,2,5,7,8,9,13]),(22,[1,2,5,7,8,9,13]),(23,[1,2,5,7,8,9]),(24,[2,5,7,8]),(25,[2,5,8]),(1000006,[2,5,7,8]),(1000011,[1,2,5,7,8,9,10])]),
 (127,.code c127 [.val] [] [(2,none)] [(0,[0]),(1,[0])]),
 (129,.code c129 [.val,.val,.val,.val] [] [(8,none)] [(0,[0,1,2,3]),(1,[1,2,3,4])]),
 (130,.code c130 [.val] [] [(2,none)] [(0,[0]),(1,[0])]),
 (131,.code c131 [.val,.val] [] [(4,none)] [(0,[0,1]),(1,[0,1]),(2,[0,1,5]),(3,[0,1,5,8,9,10]),(4,[0,1,5,8,9,10]),(5,[0,1,5,7,8,9,10]),(6,[0,1,5,8,9,10]),(7,[5]),(1000003,[5])]),
 (132,.code c132 [.val,.val,.val,.val,.val] [] [(10,none),(11,some (true,4))] [(0,[0,1,2,3,4]),(1,[1,2,4,5,8,11]),(2,[1,2,4,5,8,11,12]),(3,[1,2,4,5,8,11,12,17,18,19]),(4,[1,2,4,5,8,11,12,17,18,19]),(5,[1,2,4,5,8,11,12,14,17,18,19]),(6,[1,2,4,5,8,11,12,15,16,17,18,19]),(7,[1,2,4,5,8,11,12,15,17,18,19]),(8,[1,2,4,5,8,11,12,17,18,19]),(9,[8,11,12]),(1000003,[8,11,12])]),
 (133,.code c133 [.val,.val] [] [(4,none)] [(0,[0,1]),(1,[0,1])]),
 (134,.code c134 [.val] [] [(2,none)] [(0,[0]),(1,[0]),(2,[0]),(3,[0])]),
 (135,.code c135 [.val,.val] [] [(4,none),(5,some (true,5)),(6,none)] [(0,[0,1]),(1,[1,2,5])]),
 (136,.code c136 [.val,.val] [] [(4,none),(5,none)] [(0,[0,1]),(1,[0,1]),(2,[]),(3,[0,1]),(4,[0,1,6]),(5,[0,1,6,12,13,14]),(6,[0,1,6,12,13,14]),(7,[0,1,6,8,12,13,14]),(8,[0,1,6,12,13,14]),(9,[6]),(1000005,[6])]),
 (137,.code c137 [.val] [] [(2,none)] [(0,[0]),(1,[0]),(2,[]),(3,[0]),(4,[]),(5,[0])]),
 (138,.code c138 [.val,.val] [] [(4,none),(5,some (true,4)),(6,none)] [(0,[0,1]),(1,[1,2,5]),(2,[5]),(3,[1,2,5]),(4,[1,2,5]),(5,[1,2,5,7,1000000002]),(6,[1,2,5,7,34,35,36,1000000002]),(7,[1,2,5,7,34,35,36,1000000002]),(8,[1,2,5,7,9,34,35,36,1000000002]),(9,[1,2,5,7,10,34,35,36,1000000010,1000000002]),(10,[1,2,5,7,10,11,34,35,36,1000000010,1000000002]),(11,[1,2,5,7,10,11,12,34,35,36,1000000010,1000000002]),(12,[1,2,5,7,10,12,34,35,36,1000000010,1000000002]),(13,[1,2,5,7,10,11,34,35,36,1000000010,1000000002]),(14,[1,2,5,7,10,11,13,34,35,36,1000000010,1000000002]),(15,[1,2,5,7,10,11,34,35,36,1000000010,1000000002]),(16,[1,2,5,7,10,13,34,35,36,1000000010,1000000002]),(17,[1,2,5,7,10,13,34,35,36,1000000010,1000000002]),(18,[1,2,5,7,10,13,34,35,36,1000000010,1000000002]),(19,[1,2,5,7,34,35,36,1000000002]),(20,[2,5,7]),(21,[2,5,7]),(1000006,[2,5,7,1000000002])]),
 (139,.code c139 [.val,.val] [] [(4,none)] [(0,[0,1]),(1,[0,1])]),
 (140,.code c140 [.val] [] [(2,none)] [(0,[0]),(1,[0]),(2,[0]),(3,[]),(4,[]),(5,[3])]),
 (141,.code c141 [.val] [] [(2,none)] [(0,[0]),(1,[0])]),
 (142,.code c142 [] [] [(0,none)] [(0,[]),(1,[])]),
 (143,.code c143 [.val] [] [(2,none)] [(0,[0]),(1,[0])]),
 (144,.code c144 [.val] [] [(2,none)] [(0,[0]),(1,[0]),(2,[3]),(3,[3,4]),(4,[3,4]),(5,[3,4]),(6,[3,4]),(7,[3,4]),(8,[4,5]),(9,[4,5,6]),(10,[4,5,6,7]),(11,[4,5,6,7,8]),(12,[4,5,6,7,8]),(13,[4,5,6,7,8]),(14,[4,5,7]),(15,[5,7]),(16,[5,7]),(1000011,[4,5,7])]),
 (145,.ext (pF32bits)),
 (147,.code c147 [.val] [] [(2,none)] [(0,[0]),(1,[0])]),
 (148,.code c148 [.val,.val] [] [(4,none)] [(0,[0,1]),(1,[1,2]),(2,[1]),(3,[]),(4,[1])]),
 (149,.code c149 [.val] [] [(2,none)] [(0,[0]),(1,[0]),(2,[]),(3,[0]),(4,[]),(5,[0]),(6,[3]),(7,[3]),(8,[3]),(9,[3,4]),(10,[3,4]),(11,[3,4]),(12,[3,4]),(13,[3,4]),(14,[4,5]),(15,[4,5,6]),(16,[4,5,6,7]),(17,[4,5,6,7,8]),(18,[4,5,6,7,8]),(19,[4,5,6,7,8]),(20,[4,5,7]),(21,[5,7]),(22,[5,7]),(1000017,[4,5,7])]),
 (150,.code c150 [.val] [] [(2,some (true,3))] [(0,[0]),(1,[1,2]),(2,[1,2,3]),(3,[1,2,3]),(4,[1,2,3]),(5,[2,3])]),
 (151,.code c151 [.val,.val] [] [(4,none)] [(0,[0,1]),(1,[2,3]),(2,[]),(3,[2,3]),(4,[]),(5,[2,3]),(6,[]),(7,[])]),
 (152,.code c152 [.val,.val,.val,.val,.val] [] [(10,none),(11,some (true,4))] [(0,[0,1,2,3,4]),(1,[0,1,2,4,8,11]),(2,[0,1,2,4,8,11]),(3,[0,1,2,4,8,11,13]),(4,[0,2,4,8,11,13]),(5,[0,2,8,11,13,15]),(6,[0,2,8,11,13,15]),(7,[0,2,8,11,12,13,15]),(8,[2,8,11,12,13,15]),(9,[0,1,2,4,8,11,13,17]),(10,[0,2,4,8,11,13]),(11,[0,2,4,8,11,12,13]),(12,[0,2,4,8,11,12,13]),(13,[0,2,4,8,11,12,13]),(14,[2,4,8,11,12,13]),(15,[2,4,8,11,12,13]),(16,[0,1,2,4,8,11,13,17]),(17,[0,2,4,8,11,13]),(18,[0,2,4,8,11,12,13]),(19,[0,2,4,8,11,12,13,14]),(20,[2,11,12,13]),(21,[11,12,13]),(22,[11,12,13])]),
 (153,.code c153 [.val,.val,.val] [] [(6,none)] [(0,[0,1,2]),(1,[0,1,2]),(2,[0,1,7]),(3,[0,1,7,8]),(4,[0,1,7]),(5,[1,7,8]),(6,[1,8,9])]),
 (154,.code c154 [.val,.val,.val] [] [(6,none)] [(0,[0,1,2]),(1,[0,1,2]),(2,[]),(3,[0,1,2]),(4,[0,1,7])]),
 (155,.code c155 [.val,.val] [] [(4,none)] [(0,[0,1]),(1,[0,1]),(2,[0,1]),(3,[1]),(4,[1]),(5,[0])]),
 (156,.code c156 [.val] [] [(2,none)] [(0,[0]),(1,[0]),(2,[0]),(3,[0])]),
 (159,.ext (pF32frombits)),
 (160,.code c160 [.val] [] [(2,none)] [(0,[0]),(1,[0])]),
 (161,.code c161 [.val,.val,.val,.val,.val] [] [(10,none),(11,some (true,4))] [(0,[0,1,2,3,4]),(1,[1,2,4,5,8,11]),(2,[1,2,4,5,8,11]),(3,[2,4,5,8,11]),(4,[2,5,8,11,13]),(5,[2,8,11,12,13]),(6,[1,2,4,5,8,11,14]),(7,[2,4,5,8,11]),(8,[2,4,8,11,12]),(9,[2,4,8,11,12]),(10,[1,2,4,5,8,11,14]),(11,[2,4,5,8,11]),(12,[2,4,5,8,11,12]),(13,[2,8,11,12])]),
 (162,.code c162 [.val] [] [(2,none)] [(0,[0]),(1,[0])]),
 (163,.ext (pCopysign)),
 (164,.code c164 [.val,.val,.val] [] [(6,none),(7,some (true,5)),(8,none)] [(0,[0,1,2]),(1,[1,2,3,7]),(2,[7]),(3,[1,2,3,7]),(4,[1,2,3,7,9]),(5,[1,2,3,7,9,23,24,25]),(6,[1,2,3,7,9,23,24,25]),(7,[1,2,3,7,9,10,11,23,24,25]),(8,[1,2,3,7,9,11,23,24,25]),(9,[1,2,3,7,9,23,24,25]),(10,[3,7,9]),(1000005,[3,7,9])]),
 (165,.code c165 [.val,.val] [] [(4,none)] [(0,[0,1]),(1,[0,1]),(2,[0]),(3,[0,1]),(4,[1]),(5,[1])]),
 (166,.code c166 [.val] [] [(2,none)] [(0,[0]),(1,[0]),(2,[0,3]),(3,[0,3,7,8,9]),(4,[0,3,7,8,9]),(5,[0,3,5,7,8,9]),(6,[0,3,6,7,8,9]),(7,[0,6,7,8,9]),(8,[0,3,7,8,9]),(9,[3]),(1000003,[3])]),
 (167,.code c167 [.val,.val] [] [(4,none)] [(0,[0,1]),(1,[0,1]),(2,[0,1,7,8]),(3,[0,1,7,8]),(4,[0,1,5,7,8]),(5,[5]),(6,[0,1,7,8]),(7,[]),(1000002,[4])]),
 (168,.ext (pF64frombits)),
 (169,.ext (pAbs)),
 (170,.code c170 [.val] [] [(2,none)] [(0,[0]),(1,[0]),(2,[0,3]),(3,[0]),(4,[0,3]),(5,[4]),(6,[4]),(7,[4])]),
 (171,.code c171 [.val] [] [(2,none)] [(0,[0]),(1,[0])]),
 (172,.code c172 [.val,.val] [] [(4,none)] [(0,[0,1]),(1,[0,1]),(2,[0]),(3,[0])]),
 (173,.code c173 [.val,.val] [] [(4,none)] [(0,[0,1]),(1,[0,1]),(2,[0]),(3,[0])]),
 (174,.ext (pF64bits)),
 (175,.code c175 [.iop,.val] [0] [] [(0,[0,1]),(1,[0,4]),(2,[0,4,5]),(3,[0,4]),(4,[0,4,5])]),
 (176,.code c176 [.val,.val,.val] [] [(6,none)] [(0,[0,1,2]),(1,[0,1,2]),(2,[]),(3,[0,1,2])]),
 (177,.code c177 [.val] [] [(2,none)] [(0,[0]),(1,[0])]),
 (178,.code c178 [.val] [] [(2,none)] [(0,[0]),(1,[0]),(2,[0])]),
 (179,.ext (pIntegral .zero)),
 (180,.code c180 [.val] [] [(2,none)] [(0,[0]),(1,[0]),(2,[0]),(3,[0]),(4,[3]),(5,[3,4]),(6,[3,4]),(7,[3])])]
def E:Env:=⟨fun t=>lookT tyTab t,lookF fnTab⟩
def fdAt (n:Nat):FD:=match lookF fnTab n with
 | some d=>d
 | none => .ext fun _=>none
def keepAt (n:Nat):List (Nat × List Nat):=match lookF fnTab n with
 | some d=>d.keep
 | none=>[]
theorem tysOk:TysOk Tryz.prog E:=tysOk_of (l:=tyTab) (fun _=>rfl) (by kernel_rfl)
abbrev FT (f:Nat):Prop:=FnTab Tryz.prog E f (fdAt f)
theorem ftS {f : Nat} {fn : Func} (c : Code) (hf : Tryz.prog.funcs[f]? = some fn) (hn : (fn.name == "runtime.NumGoroutine") = false := by kernel_rfl) (hb : fn.body = some c := by kernel_rfl) (h : tabOk E fn c (fdAt f).ms (fdAt f).os (fdAt f).rs = true := by kernel_rfl) (hd : fdAt f = .code c (fdAt f).ms (fdAt f).os (fdAt f).rs (fdAt f).keep := by kernel_rfl) : FT f := by unfold FT; rw [hd]; exact fnTab_code hf hn hb h
theorem ft5:FT 5:=ftS c5 Tryz.func5
theorem ft9:FT 9:=ftS c9 Tryz.func9
theorem ft10:FT 10:=ftS c10 Tryz.func10
theorem ft14:FT 14:=ftS c14 Tryz.func14
theorem ft16:FT 16:=ftS c16 Tryz.func16
theorem ft17:FT 17:=ftS c17 Tryz.func17
theorem ft18:FT 18:=ftS c18 Tryz.func18
theorem ft19:FT 19:=ftS c19 Tryz.func19
theorem ft20:FT 20:=ftS c20 Tryz.func20
theorem ft21:FT 21:=ftS c21 Tryz.func21
theorem ft22:FT 22:=ftS c22 Tryz.func22
theorem ft25:FT 25:=ftS c25 Tryz.func25
theorem ft26:FT 26:=ftS c26 Tryz.func26
theorem ft27:FT 27:=ftS c27 Tryz.func27
theorem ft28:FT 28:=ftS c28 Tryz.func28
theorem ft29:FT 29:=ftS c29 Tryz.func29
theorem ft31:FT 31:=ftS c31 Tryz.func31
theorem ft32:FT 32:=ftS c32 Tryz.func32
theorem ft34:FT 34:=ftS c34 Tryz.func34
theorem ft37:FT 37:=ftS c37 Tryz.func37
theorem ft38:FT 38:=ftS c38 Tryz.func38
theorem ft40:FT 40:=ftS c40 Tryz.func40
theorem ft41:FT 41:=ftS c41 Tryz.func41
theorem ft42:FT 42:=ftS c42 Tryz.func42
theorem ft43:FT 43:=ftS c43 Tryz.func43
theorem ft44:FT 44:=ftS c44 Tryz.func44
theorem ft46:FT 46:=ftS c46 Tryz.func46
theorem ft47:FT 47:=ftS c47 Tryz.func47
theorem ft48:FT 48:=ftS c48 Tryz.func48
theorem ft49:FT 49:=ftS c49 Tryz.func49
theorem ft50:FT 50:=ftS c50 Tryz.func50
theorem ft51:FT 51:=ftS c51 Tryz.func51
theorem ft52:FT 52:=ftS c52 Tryz.func52
theorem ft53:FT 53:=ftS c53 Tryz.func53
theorem ft54:FT 54:=ftS c54 Tryz.func54
theorem ft55:FT 55:=ftS c55 Tryz.func55
theorem ft56:FT 56:=ftS c56 Tryz.func56
theorem ft57:FT 57:=ftS c57 Tryz.func57
theorem ft62:FT 62:=ftS c62 Tryz.func62
theorem ft63:FT 63:=ftS c63 Tryz.func63
theorem ft64:FT 64:=ftS c64 Tryz.func64
theorem ft65:FT 65:=ftS c65 Tryz.func65
theorem ft66:FT 66:=ftS c66 Tryz.func66
theorem ft67:FT 67:=ftS c67 Tryz.func67
theorem ft68:FT 68:=ftS c68 Tryz.func68
theorem ft69:FT 69:=ftS c69 Tryz.func69
theorem ft70:FT 70:=ftS c70 Tryz.func70
theorem ft71:FT 71:=ftS c71 Tryz.func71
theorem ft72:FT 72:=ftS c72 Tryz.func72
theorem ft73:FT 73:=ftS c73 Tryz.func73
theorem ft78:FT 78:=ftS c78 Tryz.func78
theorem ft79:FT 79:=ftS c79 Tryz.func79
theorem ft80:FT 80:=ftS c80 Tryz.func80
theorem ft83:FT 83:=ftS c83 Tryz.func83
theorem ft84:FT 84:=ftS c84 Tryz.func84
theorem ft85:FT 85:=ftS c85 Tryz.func85
theorem ft86:FT 86:=ftS c86 Tryz.func86
theorem ft87:FT 87:=ftS c87 Tryz.func87
theorem ft88:FT 88:=ftS c88 Tryz.func88
theorem ft89:FT 89:=ftS c89 Tryz.func89
theorem ft90:FT 90:=ftS c90 Tryz.func90
theorem ft91:FT 91:=ftS c91 Tryz.func91
theorem ft92:FT 92:=ftS c92 Tryz.func92
theorem ft93:FT 93:=ftS c93 Tryz.func93
theorem ft94:FT 94:=ftS c94 Tryz.func94
theorem ft99:FT 99:=ftS c99 Tryz.func99
theorem ft100:FT 100:=ftS c100 Tryz.func100
theorem ft101:FT 101:=ftS c101 Tryz.func101
theorem ft102:FT 102:=ftS c102 Tryz.func102
theorem ft103:FT 103:=ftS c103 Tryz.func103
theorem ft104:FT 104:=ftS c104 Tryz.func104
theorem ft105:FT 105:=ftS c105 Tryz.func105
theorem ft107:FT 107:=ftS c107 Tryz.func107
theorem ft108:FT 108:=ftS c108 Tryz.func108
theorem ft109:FT 109:=ftS c109 Tryz.func109
theorem ft110:FT 110:=ftS c110 Tryz.func110
theorem ft111:FT 111:=ftS c111 Tryz.func111
theorem ft112:FT 112:=ftS c112 Tryz.func112
theorem ft113:FT 113:=ftS c113 Tryz.func113
theorem ft114:FT 114:=ftS c114 Tryz.func114
theorem ft115:FT 115:=ftS c115 Tryz.func115
theorem ft116:FT 116:=ftS c116 Tryz.func116
theorem ft117:FT 117:=ftS c117 Tryz.func117
theorem ft118:FT 118:=ftS c118 Tryz.func118
theorem ft119:FT 119:=ftS c119 Tryz.func119
theorem ft120:FT 120:=ftS c120 Tryz.func120
theorem ft121:FT 121:=ftS c121 Tryz.func121
theorem ft122:FT 122:=ftS c122 Tryz.func122
theorem ft123:FT 123:=ftS c123 Tryz.func123
theorem ft127:FT 127:=ftS c127 Tryz.func127
theorem ft129:FT 129:=ftS c129 Tryz.func129
theorem ft130:FT 130:=ftS c130 Tryz.func130
theorem ft131:FT 131:=ftS c131 Tryz.func131
theorem ft132:FT 132:=ftS c132 Tryz.func132
theorem ft133:FT 133:=ftS c133 Tryz.func133
theorem ft134:FT 134:=ftS c134 Tryz.func134
theorem ft135:FT 135:=ftS c135 Tryz.func135
theorem ft136:FT 136:=ftS c136 Tryz.func136
theorem ft137:FT 137:=ftS c137 Tryz.func137
theorem ft138:FT 138:=ftS c138 Tryz.func138
theorem ft139:FT 139:=ftS c139 Tryz.func139
theorem ft140:FT 140:=ftS c140 Tryz.func140
theorem ft141:FT 141:=ftS c141 Tryz.func141
theorem ft142:FT 142:=ftS c142 Tryz.func142
theorem ft143:FT 143:=ftS c143 Tryz.func143
theorem ft144:FT 144:=ftS c144 Tryz.func144
theorem ft145:FnTab Tryz.prog E 145 (.ext (pF32bits)):=ext_pF32bits Tryz.func145 (by kernel_rfl) (by kernel_rfl) (by kernel_rfl) (by kernel_rfl)
theorem ft147:FT 147:=ftS c147 Tryz.func147
theorem ft148:FT 148:=ftS c148 Tryz.func148
theorem ft149:FT 149:=ftS c149 Tryz.func149
theorem ft150:FT 150:=ftS c150 Tryz.func150
theorem ft151:FT 151:=ftS c151 Tryz.func151
theorem ft152:FT 152:=ftS c152 Tryz.func152
theorem ft153:FT 153:=ftS c153 Tryz.func153
theorem ft154:FT 154:=ftS c154 Tryz.func154
theorem ft155:FT 155:=ftS c155 Tryz.func155
theorem ft156:FT 156:=ftS c156 Tryz.func156
theorem ft159:FnTab Tryz.prog E 159 (.ext (pF32frombits)):=ext_pF32frombits Tryz.func159 (by kernel_rfl) (by kernel_rfl) (by kernel_rfl) (by kernel_rfl)
theorem ft160:FT 160:=ftS c160 Tryz.func160
theorem ft161:FT 161:=ftS c161 Tryz.func161
theorem ft162:FT 162:=ftS c162 Tryz.func162
theorem ft163:FnTab Tryz.prog E 163 (.ext (pCopysign)):=DC.signOk
theorem ft164:FT 164:=ftS c164 Tryz.func164
theorem ft165:FT 165:=ftS c165 Tryz.func165
theorem ft166:FT 166:=ftS c166 Tryz.func166
theorem ft167:FT 167:=ftS c167 Tryz.func167
theorem ft168:FnTab Tryz.prog E 168 (.ext (pF64frombits)):=ext_pF64frombits Tryz.func168 (by kernel_rfl) (by kernel_rfl) (by kernel_rfl) (by kernel_rfl)
theorem ft169:FnTab Tryz.prog E 169 (.ext (pAbs)):=DA.absOk
theorem ft170:FT 170:=ftS c170 Tryz.func170
theorem ft171:FT 171:=ftS c171 Tryz.func171
theorem ft172:FT 172:=ftS c172 Tryz.func172
theorem ft173:FT 173:=ftS c173 Tryz.func173
theorem ft174:FnTab Tryz.prog E 174 (.ext (pF64bits)):=ext_pF64bits Tryz.func174 (by kernel_rfl) (by kernel_rfl) (by kernel_rfl) (by kernel_rfl)
theorem ft175:FT 175:=ftS c175 Tryz.func175
theorem ft176:FT 176:=ftS c176 Tryz.func176
theorem ft177:FT 177:=ftS c177 Tryz.func177
theorem ft178:FT 178:=ftS c178 Tryz.func178
theorem ft179:FnTab Tryz.prog E 179 (.ext (pIntegral .zero)):=ext_pIntegral_zero Tryz.func179 (by kernel_rfl) (by kernel_rfl) (by kernel_rfl) (by kernel_rfl)
theorem ft180:FT 180:=ftS c180 Tryz.func180
theorem allFns:AllFns Tryz.prog E fnTab:=.cons ft5 (.cons ft9 (.cons ft10 (.cons ft14 (.cons ft16 (.cons ft17 (.cons ft18 (.cons ft19 (.cons ft20 (.cons ft21 (.cons ft22 (.cons ft25 (.cons ft26 (.cons ft27 (.cons ft28 (.cons ft29 (.cons ft31 (.cons ft32 (.cons ft34 (.cons ft37 (.cons ft38 (.cons ft40 (.cons ft41 (.cons ft42 (.cons ft43 (.cons ft44 (.cons ft46 (.cons ft47 (.cons ft48 (.cons ft49 (.cons ft50 (.cons ft51 (.cons ft52 (.cons ft53 (.cons ft54 (.cons ft55 (.cons ft56 (.cons ft57 (.cons ft62 (.cons ft63 (.cons ft64 (.cons ft65 (.cons ft66 (.cons ft67 (.cons ft68 (.cons ft69 (.cons ft70 (.cons ft71 (.cons ft72 (.cons ft73 (.cons ft78 (.cons ft79 (.cons ft80 (.cons ft83 (.cons ft84 (.cons ft85 (.cons ft86 (.cons ft87 (.cons ft88 (.cons ft89 (.cons ft90 (.cons ft91 (.cons ft92 (.cons ft93 (.cons ft94 (.cons ft99 (.cons ft100 (.cons ft101 (.cons ft102 (.cons ft103 (.cons ft104 (.cons ft105 (.cons ft107 (.cons ft108 (.cons ft109 (.cons ft110 (.cons ft111 (.cons ft112 (.cons ft113 (.cons ft114 (.cons ft115 (.cons ft116 (.cons ft117 (.cons ft118 (.cons ft119 (.cons ft120 (.cons ft121 (.cons ft122 (.cons ft123 (.cons ft127 (.cons ft129 (.cons ft130 (.cons ft131 (.cons ft132 (.cons ft133 (.cons ft134 (.cons ft135 (.cons ft136 (.cons ft137 (.cons ft138 (.cons ft139 (.cons ft140 (.cons ft141 (.cons ft142 (.cons ft143 (.cons ft144 (.cons ft145 (.cons ft147 (.cons ft148 (.cons ft149 (.cons ft150 (.cons ft151 (.cons ft152 (.cons ft153 (.cons ft154 (.cons ft155 (.cons ft156 (.cons ft159 (.cons ft160 (.cons ft161 (.cons ft162 (.cons ft163 (.cons ft164 (.cons ft165 (.cons ft166 (.cons ft167 (.cons ft168 (.cons ft169 (.cons ft170 (.cons ft171 (.cons ft172 (.cons ft173 (.cons ft174 (.cons ft175 (.cons ft176 (.cons ft177 (.cons ft178 (.cons ft179 (.cons ft180 (.nil)))))))))))))))))))))))))))))))))))))))))))))))))))))))))))))))))))))))))))))))))))))))))))))))))))))))))))))))))))))))))))))))))))))))))))
theorem fnOk:∀ f fd,E.fn f=some fd→FnTab Tryz.prog E f fd:=fnTab_of (l:=fnTab) (fun _=>rfl) allFns
abbrev FnS {V X:Type} (no:Nat) (P:List Arg) (S:Sig V) (A:RAlt X) (F:Nat→V→Option X):Prop:=∀ n v x,F n v=some x→evalFn E n no (flAs P (S.pk v))=some (A.enc x)
theorem fnS {V X:Type} {no:Nat} {P:List Arg} {S:Sig V} {A:RAlt X} {F:Nat→V→Option X} (c:Code) (O:Nat→Orc) (bs:List Code:=[]) (ha:∀ n,AllLp (O n) E (evalFn E n) n (keepAt no) bs:=by intro _;exact .nil) (hf:E.fn no=some (.code c (fdAt no).ms (fdAt no).os (fdAt no).rs (keepAt no)):=by kernel_rfl) (hO:∀ n,(O n).CfOk (evalFn E n):=by intro n;exact orcOf_cf _ _ n) (hb:topLoops c=bs:=by kernel_rfl) (h0:∀ v,F 0 v=none:=by intro _;rfl) (hs:∀ n v,F (n+1) v=fnK E (O n) no (flAs P (S.pk v)) A.dec:=by intro _ _;kernel_rfl):FnS no P S A F:=fn_pure O hf hO (fun n=>lpOk_of hb (ha n)) h0 hs
abbrev LpS (no:Nat) (c:Code) (i n:Nat) (O:Orc):Prop:=LpOk O E (evalFn E n) n (keepAt no) (.loop (loopAt c i))
theorem lpS {V X:Type} {no i:Nat} {c:Code} {O:Nat→Orc} (P:AS) (S:Sig V) (A:Alt X) (L:Nat→Nat→V→Option X) (bs:List Code:=[]) (ha:∀ n,AllLp (O n) E (evalFn E n) n (keepAt no) bs:=by intro _;exact .nil) (hO:∀ n,(O n).CfOk (evalFn E n):=by intro n;exact orcOf_cf _ _ n) (hb:topLoops (loopAt c i)=bs:=by kernel_rfl) (h0:∀ n v,L n 0 v=none:=by intro _ _;rfl)
  (hs:∀ n m v,L n (m+1) v=codeK E (O n) (keepAt no) (loopAt c i) (flAS P (S.pk v)) (fun ex σ'=>match ex with
    | .normal=>bd (mtAS P (Go.Desk.settle (keepOf (keepAt no) (firstId (loopAt c i))) σ')) fun ls=>bd (S.up ls) (L n m)
    | .exit id=>A.dec (.exit id) (Go.Desk.settle (keepOf (keepAt no) (outId (loopAt c i))) σ')
    | .ret=>A.dec .ret (Go.Desk.settle (keepOf (keepAt no) (outId (loopAt c i))) σ')):=by intro _ _ _;kernel_rfl)
  (hW:∀ n (β:Type) (σ:AS) (k:Ex→AS→Option β),(O n).lp (lid (loopAt c i)) σ k=bd (mtAS P σ) fun ls=>bd (S.up ls) fun v=>bd (L n n v) fun x=>A.out x k:=by intro _ _ _ _;kernel_rfl):∀ n,LpS no c i n (O n):=fun n=>lp_pure P S A (L n) (hO n) (lpOk_of hb (ha n)) (h0 n) (hs n) (hW n)
end Go.Proofs.YtokonabdnlckdaaGreat.D
end
noncomputable section
namespace Go.Proofs.YtokonabdnlckdaaGreat.D
open Go Go.Desk
abbrev qV0:Go.Desk.V:=⟨true,[.sl .shr [.leaf,.leaf,.sl .shr [.leaf]],.sl .shr [.sl .shr [.leaf,.leaf,.sl .shr [.leaf]],.leaf,.leaf,.leaf,.leaf]],[.lst 0 [],.lst 0 []]⟩
abbrev qV1:Go.Desk.V:=⟨true,[.sl .own [.leaf,.leaf,.sl .own [.leaf]],.sl .own [.sl .own [.leaf,.leaf,.sl .own [.leaf]],.leaf,.leaf,.leaf,.leaf]],[.lst 0 [],.lst 0 []]⟩
abbrev qV2:Go.Desk.V:=⟨true,[.sl .shr [.leaf,.leaf,.sl .shr [.leaf]],.leaf,.leaf,.leaf,.leaf],[.lst 0 [],.int .i64 0,.flt .f32 0,.bool false,.bool false]⟩
abbrev qV3:Go.Desk.V:=⟨true,[.leaf,.leaf,.leaf,.leaf,.leaf],[.flt .f32 0,.flt .f32 0,.flt .f32 0,.flt .f32 0,.flt .f32 0]⟩
abbrev qV4:Go.Desk.V:=⟨false,[.sl .shr [.sl .shr [.leaf,.leaf,.sl .shr [.leaf]],.leaf,.leaf,.leaf,.leaf]],[.lst 0 []]⟩
abbrev qV5:Go.Desk.V:=⟨false,[.sl .own [.sl .own [.leaf,.leaf,.sl .own [.leaf]],.leaf,.leaf,.leaf,.leaf]],[.lst 0 []]⟩
abbrev qV6:Go.Desk.V:=⟨true,[.leaf,.leaf,.leaf,.leaf],[.flt .f32 0,.flt .f32 0,.flt .f32 0,.flt .f32 0]⟩
abbrev qV7:Go.Desk.V:=⟨true,[.leaf,.leaf,.sl .shr [.leaf]],[.int .i64 0,.int .i64 0,.lst 0 []]⟩
abbrev qV8:Go.Desk.V:=⟨false,[.sl .shr [.sl .shr [.leaf],.leaf,.leaf,.leaf,.leaf]],[.lst 0 []]⟩
abbrev qV9:Go.Desk.V:=⟨false,[.sl .shr [.leaf,.leaf,.sl .shr [.leaf]]],[.lst 0 []]⟩
abbrev qV10:Go.Desk.V:=⟨false,[.sl .own [.leaf,.leaf,.sl .own [.leaf]]],[.lst 0 []]⟩
abbrev qV11:Go.Desk.V:=⟨false,[.sl .own [.sl .own [.leaf]]],[.lst 0 []]⟩
abbrev qV12:Go.Desk.V:=⟨false,[.sl .shr [.leaf]],[.lst 0 []]⟩
abbrev qV13:Go.Desk.V:=⟨false,[.sl .own [.leaf]],[.lst 0 []]⟩
abbrev qV14:Go.Desk.V:=⟨false,[.leaf],[.int .i64 0]⟩
abbrev qV15:Go.Desk.V:=⟨false,[.leaf],[.bool false]⟩
abbrev qV16:Go.Desk.V:=⟨false,[.leaf],[.flt .f32 0]⟩
abbrev qV17:Go.Desk.V:=⟨false,[.leaf],[.flt .f64 0]⟩
abbrev qA18:Arg:=⟨.val,qV12⟩
abbrev qA19:Arg:=⟨.val,qV14⟩
abbrev qA20:Arg:=⟨.val,qV16⟩
abbrev qA21:Arg:=⟨.val,qV15⟩
abbrev qA22:Arg:=⟨.val,qV17⟩
abbrev qA23:Arg:=⟨.val,qV7⟩
abbrev qA24:Arg:=⟨.val,qV9⟩
abbrev qA25:Arg:=⟨.val,qV2⟩
abbrev qA26:Arg:=⟨.val,qV4⟩
abbrev qA27:Arg:=⟨.val,qV0⟩
abbrev qA28:Arg:=⟨.val,qV8⟩
abbrev qA29:Arg:=⟨.val,qV6⟩
abbrev qA30:Arg:=⟨.val,qV3⟩
abbrev qS31:Slot:=.val false [.rf .shr [.sl .shr [.leaf,.leaf,.sl .shr [.leaf]],.sl .shr [.sl .shr [.leaf,.leaf,.sl .shr [.leaf]],.leaf,.leaf,.leaf,.leaf]]] [.ref [.lst 0 [],.lst 0 []]] [] 0
abbrev qS32:Slot:=.val false [.sl .shr [.sl .shr [.leaf,.leaf,.sl .shr [.leaf]],.leaf,.leaf,.leaf,.leaf]] [.lst 0 []] [] 0
abbrev qS33:Slot:=.val false [.sl .shr [.sl .shr [.leaf],.leaf,.leaf,.leaf,.leaf]] [.lst 0 []] [] 0
abbrev qS34:Slot:=.val false [.sl .own [.sl .own [.leaf],.leaf,.leaf,.leaf,.leaf]] [.lst 0 []] [] 0
abbrev qS35:Slot:=.val false [.sl .shr [.leaf,.leaf,.sl .shr [.leaf]]] [.lst 0 []] [] 0
abbrev qS36:Slot:=.val false [.sl .own [.leaf,.leaf,.sl .own [.leaf]]] [.lst 0 []] [] 0
abbrev qS37:Slot:=.val false [.sl .own [.leaf,.leaf,.sl .own [.leaf]]] [.lst 0 []] [] 1
abbrev qS38:Slot:=.val false [.sl .own [.sl .own [.sl .own [.leaf]]]] [.lst 0 []] [] 0
abbrev qS39:Slot:=.val false [.sl .own [.sl .own [.leaf]]] [.lst 0 []] [] 0
abbrev qS40:Slot:=.val false [.sl .shr [.leaf]] [.lst 0 []] [] 0
abbrev qS41:Slot:=.val false [.sl .own [.leaf]] [.lst 0 []] [] 0
abbrev qS42:Slot:=.val false [.leaf] [.int .i64 0] [] 0
abbrev qS43:Slot:=.val false [.leaf] [.bool false] [] 0
abbrev qS44:Slot:=.val false [.leaf] [.flt .f32 0] [] 0
abbrev qS45:Slot:=.val false [.leaf] [.flt .f64 0] [] 0
set_option linter.unusedVariables false
def x163.w:FnW E:=xCopysign.w 163 (by kernel_rfl)
def x169.w:FnW E:=xAbs.w 169 (by kernel_rfl)
def x168.w:FnW E:=xF64frombits.w 168 (by kernel_rfl)
def x179.w:FnW E:=xIntegral_zero.w 179 (by kernel_rfl)
def x174.w:FnW E:=xF64bits.w 174 (by kernel_rfl)
def x145.w:FnW E:=xF32bits.w 145 (by kernel_rfl)
def x159.w:FnW E:=xF32frombits.w 159 (by kernel_rfl)
def f109:Nat→Nat→List T→Int→Option (Int)
 | 0,_,_,_=>none
 | n+1,n1,l2,i3 =>
   let i4:=(IntKind.i64.wrap (i3 - (n1:Int)))
   br (decide (i4<(0:Int))) (
    some (-1:Int)) (
    some i4)
def sg_li:Sig (Nat × List T × Int) where
 pk:=fun v=>[.lst v.1 v.2.1,.int v.2.2]
 up:=fun ls=>match ls with
  | [.lst a0 a1,.int a2]=>some (a0,a1,a2)
  | _=>none
 ok:=by intro _ _ h;split at h <;>cases h;rfl
def sg_i:Sig (Int) where
 pk:=fun v=>[.int v]
 up:=fun ls=>match ls with
  | [.int a0]=>some a0
  | _=>none
 ok:=by intro _ _ h;split at h <;>cases h;rfl
def f109.P:List Arg:=[qA18,qA19]
def f109.A:RAlt (Int):=.one ⟨[qV14],[none,none]⟩ sg_i
def f109.F (n:Nat) (v:Nat × List T × Int):=f109 n v.1 v.2.1 v.2.2
def f109.O (n:Nat):Orc:=orcOf (E:=E) [] [] n
theorem f109.ok:FnS 109 f109.P sg_li f109.A f109.F:=fnS c109 f109.O
def f109.w:FnW E:=fnW 109 f109.P sg_li f109.A f109.F f109.ok
def f83:Nat→Int→Int→Nat→List T→Int→Option (Int)
 | 0,_,_,_,_,_=>none
 | n+1,i1,i2,n3,l4,i5 =>
   bd (f109 n n3 l4 i5) fun r6 =>
   let i7:=r6
   br (decide (i7<(0:Int))) (
    some (-1:Int)) (
    some i7)
def sg_iili:Sig (Int × Int × Nat × List T × Int) where
 pk:=fun v=>[.int v.1,.int v.2.1,.lst v.2.2.1 v.2.2.2.1,.int v.2.2.2.2]
 up:=fun ls=>match ls with
  | [.int a0,.int a1,.lst a2 a3,.int a4]=>some (a0,a1,a2,a3,a4)
  | _=>none
 ok:=by intro _ _ h;split at h <;>cases h;rfl
def f83.P:List Arg:=[qA23,qA19]
def f83.A:RAlt (Int):=.one ⟨[qV14],[none,none]⟩ sg_i
def f83.F (n:Nat) (v:Int × Int × Nat × List T × Int):=f83 n v.1 v.2.1 v.2.2.1 v.2.2.2.1 v.2.2.2.2
def f83.O (n:Nat):Orc:=orcOf (E:=E) [f109.w] [] n
theorem f83.ok:FnS 83 f83.P sg_iili f83.A f83.F:=fnS c83 f83.O
def f83.w:FnW E:=fnW 83 f83.P sg_iili f83.A f83.F f83.ok
def f41.l0 (n:Nat):Nat→Nat→List T→Int→Int→Option ((Int) ⊕ (Int))
 | 0,_,_,_,_=>none
 | m+1,n1,l2,i3,i4 =>
   br (decide (i4<(n1:Int))) (
    gd ((decide ((0≤i4)∧(i4<(n1:Int))))&&(okAt [(CK.int .i64),(CK.int .i64),CK.lst] l2 (((Int.toNat i4) * 3)+0))) (
    bd (f83 n (iAt l2 (((Int.toNat i4) * 3)+0)) (iAt l2 ((((Int.toNat i4) * 3)+0)+1)) (nAt l2 (((((Int.toNat i4) * 3)+0)+1)+1)) (lAt l2 (((((Int.toNat i4) * 3)+0)+1)+1)) i3) fun r5 =>
    let i6:=r5
    br (decide (i6<(0:Int))) (
     some (Sum.inl (-1:Int))) (
     f41.l0 n m n1 l2 i6 (IntKind.i64.wrap (i4+(1:Int)))))) (
    some (Sum.inr i3))
def f41:Nat→Nat→List T→Int→Option (Int)
 | 0,_,_,_=>none
 | n+1,n1,l2,i3 =>
   let i4:=(IntKind.i64.wrap (i3 - (n1:Int)))
   br (decide (i4<(0:Int))) (
    some (-1:Int)) (
    bd (f41.l0 n n n1 l2 i4 (0:Int)) fun r5 =>
    sm r5 (fun u6 =>
     let i7:=u6
     some i7) (fun u8 =>
     let i9:=u8
     some i9))
def sg_lii:Sig (Nat × List T × Int × Int) where
 pk:=fun v=>[.lst v.1 v.2.1,.int v.2.2.1,.int v.2.2.2]
 up:=fun ls=>match ls with
  | [.lst a0 a1,.int a2,.int a3]=>some (a0,a1,a2,a3)
  | _=>none
 ok:=by intro _ _ h;split at h <;>cases h;rfl
def f41.l0.P:AS:=⟨[(0,qS35),(1,qS42),(5,qS42)],0⟩
def f41.l0.A:Alt ((Int) ⊕ (Int)):=.or (.one .ret ⟨[(1,.dead),(4,qS42)],0⟩ sg_i) (.one (.exit 0) ⟨[(1,qS42),(4,.dead)],0⟩ sg_i)
def f41.l0.F (n m:Nat) (v:Nat × List T × Int × Int):=f41.l0 n m v.1 v.2.1 v.2.2.1 v.2.2.2
def f41.l0.W (n:Nat):LpW:=.of 80 f41.l0.P sg_lii f41.l0.A (f41.l0.F n n)
def f41.P:List Arg:=[qA24,qA19]
def f41.A:RAlt (Int):=.one ⟨[qV14],[none,none]⟩ sg_i
def f41.F (n:Nat) (v:Nat × List T × Int):=f41 n v.1 v.2.1 v.2.2
def f41.O (n:Nat):Orc:=orcOf (E:=E) [f83.w] [f41.l0.W n] n
theorem f41.l0.ok:∀ n,LpS 41 c41 0 n (f41.O n):=lpS f41.l0.P sg_lii f41.l0.A f41.l0.F
theorem f41.ok:FnS 41 f41.P sg_li f41.A f41.F:=fnS c41 f41.O [loopAt c41 0] (fun n=>(.cons (f41.l0.ok n) .nil))
def f41.w:FnW E:=fnW 41 f41.P sg_li f41.A f41.F f41.ok
def f148:Nat→Int→Int→Nat→List T→Int→Option (Int)
 | 0,_,_,_,_,_=>none
 | n+1,i1,i2,n3,l4,i5 =>
   bd (f109 n n3 l4 i5) fun r6 =>
   let i7:=r6
   br (decide (i7<(0:Int))) (
    some (-1:Int)) (
    some i7)
def f148.P:List Arg:=[qA23,qA19]
def f148.A:RAlt (Int):=.one ⟨[qV14],[none,none]⟩ sg_i
def f148.F (n:Nat) (v:Int × Int × Nat × List T × Int):=f148 n v.1 v.2.1 v.2.2.1 v.2.2.2.1 v.2.2.2.2
def f148.O (n:Nat):Orc:=orcOf (E:=E) [f109.w] [] n
theorem f148.ok:FnS 148 f148.P sg_iili f148.A f148.F:=fnS c148 f148.O
def f148.w:FnW E:=fnW 148 f148.P sg_iili f148.A f148.F f148.ok
def f110.l0 (n:Nat):Nat→Nat→List T→Int→Int→Option ((Int) ⊕ (Int))
 | 0,_,_,_,_=>none
 | m+1,n1,l2,i3,i4 =>
   br (decide (i4<(n1:Int))) (
    gd ((decide ((0≤i4)∧(i4<(n1:Int))))&&(okAt [(CK.int .i64),(CK.int .i64),CK.lst] l2 (((Int.toNat i4) * 3)+0))) (
    bd (f148 n (iAt l2 (((Int.toNat i4) * 3)+0)) (iAt l2 ((((Int.toNat i4) * 3)+0)+1)) (nAt l2 (((((Int.toNat i4) * 3)+0)+1)+1)) (lAt l2 (((((Int.toNat i4) * 3)+0)+1)+1)) i3) fun r5 =>
    let i6:=r5
    br (decide (i6<(0:Int))) (
     some (Sum.inl (-1:Int))) (
     f110.l0 n m n1 l2 i6 (IntKind.i64.wrap (i4+(1:Int)))))) (
    some (Sum.inr i3))
def f110:Nat→Nat→List T→Int→Option (Int)
 | 0,_,_,_=>none
 | n+1,n1,l2,i3 =>
   let i4:=(IntKind.i64.wrap (i3 - (n1:Int)))
   br (decide (i4<(0:Int))) (
    some (-1:Int)) (
    bd (f110.l0 n n n1 l2 i4 (0:Int)) fun r5 =>
    sm r5 (fun u6 =>
     let i7:=u6
     some i7) (fun u8 =>
     let i9:=u8
     some i9))
def f110.l0.P:AS:=⟨[(0,qS35),(1,qS42),(5,qS42)],0⟩
def f110.l0.A:Alt ((Int) ⊕ (Int)):=.or (.one .ret ⟨[(1,.dead),(4,qS42)],0⟩ sg_i) (.one (.exit 0) ⟨[(1,qS42),(4,.dead)],0⟩ sg_i)
def f110.l0.F (n m:Nat) (v:Nat × List T × Int × Int):=f110.l0 n m v.1 v.2.1 v.2.2.1 v.2.2.2
def f110.l0.W (n:Nat):LpW:=.of 80 f110.l0.P sg_lii f110.l0.A (f110.l0.F n n)
def f110.P:List Arg:=[qA24,qA19]
def f110.A:RAlt (Int):=.one ⟨[qV14],[none,none]⟩ sg_i
def f110.F (n:Nat) (v:Nat × List T × Int):=f110 n v.1 v.2.1 v.2.2
def f110.O (n:Nat):Orc:=orcOf (E:=E) [f148.w] [f110.l0.W n] n
theorem f110.l0.ok:∀ n,LpS 110 c110 0 n (f110.O n):=lpS f110.l0.P sg_lii f110.l0.A f110.l0.F
theorem f110.ok:FnS 110 f110.P sg_li f110.A f110.F:=fnS c110 f110.O [loopAt c110 0] (fun n=>(.cons (f110.l0.ok n) .nil))
def f110.w:FnW E:=fnW 110 f110.P sg_li f110.A f110.F f110.ok
def f84:Nat→Nat→List T→Int→Nat→Bool→Bool→Int→Option (Int)
 | 0,_,_,_,_,_,_,_=>none
 | n+1,n1,l2,i3,x4,b5,b6,i7 =>
   bd (f110 n n1 l2 i7) fun r8 =>
   let i9:=r8
   br (decide (i9<(0:Int))) (
    some (-1:Int)) (
    some i9)
def sg_lifbbi:Sig (Nat × List T × Int × Nat × Bool × Bool × Int) where
 pk:=fun v=>[.lst v.1 v.2.1,.int v.2.2.1,.flt v.2.2.2.1,.bool v.2.2.2.2.1,.bool v.2.2.2.2.2.1,.int v.2.2.2.2.2.2]
 up:=fun ls=>match ls with
  | [.lst a0 a1,.int a2,.flt a3,.bool a4,.bool a5,.int a6]=>some (a0,a1,a2,a3,a4,a5,a6)
  | _=>none
 ok:=by intro _ _ h;split at h <;>cases h;rfl
def f84.P:List Arg:=[qA25,qA19]
def f84.A:RAlt (Int):=.one ⟨[qV14],[none,none]⟩ sg_i
def f84.F (n:Nat) (v:Nat × List T × Int × Nat × Bool × Bool × Int):=f84 n v.1 v.2.1 v.2.2.1 v.2.2.2.1 v.2.2.2.2.1 v.2.2.2.2.2.1 v.2.2.2.2.2.2
def f84.O (n:Nat):Orc:=orcOf (E:=E) [f110.w] [] n
theorem f84.ok:FnS 84 f84.P sg_lifbbi f84.A f84.F:=fnS c84 f84.O
def f84.w:FnW E:=fnW 84 f84.P sg_lifbbi f84.A f84.F f84.ok
def f42.l0 (n:Nat):Nat→Nat→List T→Int→Int→Option ((Int) ⊕ (Int))
 | 0,_,_,_,_=>none
 | m+1,n1,l2,i3,i4 =>
   br (decide (i4<(n1:Int))) (
    gd ((decide ((0≤i4)∧(i4<(n1:Int))))&&(okAt [CK.lst,(CK.int .i64),(CK.flt .f32),CK.bool,CK.bool] l2 (((Int.toNat i4) * 5)+0))) (
    bd (f84 n (nAt l2 (((Int.toNat i4) * 5)+0)) (lAt l2 (((Int.toNat i4) * 5)+0)) (iAt l2 ((((Int.toNat i4) * 5)+0)+1)) (fAt l2 (((((Int.toNat i4) * 5)+0)+1)+1)) (bAt l2 ((((((Int.toNat i4) * 5)+0)+1)+1)+1)) (bAt l2 (((((((Int.toNat i4) * 5)+0)+1)+1)+1)+1)) i3) fun r5 =>
    let i6:=r5
    br (decide (i6<(0:Int))) (
     some (Sum.inl (-1:Int))) (
     f42.l0 n m n1 l2 i6 (IntKind.i64.wrap (i4+(1:Int)))))) (
    some (Sum.inr i3))
def f42:Nat→Nat→List T→Int→Option (Int)
 | 0,_,_,_=>none
 | n+1,n1,l2,i3 =>
   let i4:=(IntKind.i64.wrap (i3 - (n1:Int)))
   br (decide (i4<(0:Int))) (
    some (-1:Int)) (
    bd (f42.l0 n n n1 l2 i4 (0:Int)) fun r5 =>
    sm r5 (fun u6 =>
     let i7:=u6
     some i7) (fun u8 =>
     let i9:=u8
     some i9))
def f42.l0.P:AS:=⟨[(0,qS32),(1,qS42),(5,qS42)],0⟩
def f42.l0.A:Alt ((Int) ⊕ (Int)):=.or (.one .ret ⟨[(1,.dead),(4,qS42)],0⟩ sg_i) (.one (.exit 0) ⟨[(1,qS42),(4,.dead)],0⟩ sg_i)
def f42.l0.F (n m:Nat) (v:Nat × List T × Int × Int):=f42.l0 n m v.1 v.2.1 v.2.2.1 v.2.2.2
def f42.l0.W (n:Nat):LpW:=.of 80 f42.l0.P sg_lii f42.l0.A (f42.l0.F n n)
def f42.P:List Arg:=[qA26,qA19]
def f42.A:RAlt (Int):=.one ⟨[qV14],[none,none]⟩ sg_i
def f42.F (n:Nat) (v:Nat × List T × Int):=f42 n v.1 v.2.1 v.2.2
def f42.O (n:Nat):Orc:=orcOf (E:=E) [f84.w] [f42.l0.W n] n
theorem f42.l0.ok:∀ n,LpS 42 c42 0 n (f42.O n):=lpS f42.l0.P sg_lii f42.l0.A f42.l0.F
theorem f42.ok:FnS 42 f42.P sg_li f42.A f42.F:=fnS c42 f42.O [loopAt c42 0] (fun n=>(.cons (f42.l0.ok n) .nil))
def f42.w:FnW E:=fnW 42 f42.P sg_li f42.A f42.F f42.ok
def f14:Nat→Nat→List T→Nat→List T→Int→Option (Int)
 | 0,_,_,_,_,_=>none
 | n+1,n1,l2,n3,l4,i5 =>
   bd (f41 n n1 l2 i5) fun r6 =>
   let i7:=r6
   br (decide (i7<(0:Int))) (
    some (-1:Int)) (
    bd (f42 n n3 l4 i7) fun r8 =>
    let i9:=r8
    br (decide (i9<(0:Int))) (
     some (-1:Int)) (
     some i9))
def sg_lli:Sig (Nat × List T × Nat × List T × Int) where
 pk:=fun v=>[.lst v.1 v.2.1,.lst v.2.2.1 v.2.2.2.1,.int v.2.2.2.2]
 up:=fun ls=>match ls with
  | [.lst a0 a1,.lst a2 a3,.int a4]=>some (a0,a1,a2,a3,a4)
  | _=>none
 ok:=by intro _ _ h;split at h <;>cases h;rfl
def f14.P:List Arg:=[qA27,qA19]
def f14.A:RAlt (Int):=.one ⟨[qV14],[none,none]⟩ sg_i
def f14.F (n:Nat) (v:Nat × List T × Nat × List T × Int):=f14 n v.1 v.2.1 v.2.2.1 v.2.2.2.1 v.2.2.2.2
def f14.O (n:Nat):Orc:=orcOf (E:=E) [f41.w,f42.w] [] n
theorem f14.ok:FnS 14 f14.P sg_lli f14.A f14.F:=fnS c14 f14.O
def f14.w:FnW E:=fnW 14 f14.P sg_lli f14.A f14.F f14.ok
def f114.l0 (n:Nat):Nat→Nat→List T→Nat→List T→Int→Option (Nat × List T)
 | 0,_,_,_,_,_=>none
 | m+1,n1,l2,n3,l4,i5 =>
   br (decide (i5<(n1:Int))) (
    gd ((decide ((0≤i5)∧(i5<(n1:Int))))&&(okAt [(CK.flt .f32)] l2 (Int.toNat i5))) (
    gd (decide ((0≤i5)∧(i5<(n3:Int)))) (
    gd (Nat.ble ((Int.toNat i5)+1) (List.length l4)) (
    let l6:=(setN l4 (Int.toNat i5) [(T.flt .f32 (fAt l2 (Int.toNat i5)))])
    f114.l0 n m n1 l2 n3 l6 (IntKind.i64.wrap (i5+(1:Int))))))) (
    some (n3,l4))
def f114:Nat→Nat→List T→Option (Nat × List T)
 | 0,_,_=>none
 | n+1,n1,l2 =>
   gd (decide ((0≤(n1:Int))∧((n1:Int)≤(2147483648:Int)))) (
   let l3:=(reps n1 [(T.flt .f32 0)])
   bd (f114.l0 n n n1 l2 n1 l3 (0:Int)) fun r4 =>
   let n5:=r4.1
   let l6:=r4.2
   some (n5,l6))
def sg_l:Sig (Nat × List T) where
 pk:=fun v=>[.lst v.1 v.2]
 up:=fun ls=>match ls with
  | [.lst a0 a1]=>some (a0,a1)
  | _=>none
 ok:=by intro _ _ h;split at h <;>cases h;rfl
def f114.l0.P:AS:=⟨[(0,qS40),(3,qS41),(4,qS42)],0⟩
def f114.l0.A:Alt (Nat × List T):=.one (.exit 0) ⟨[(3,qS41)],0⟩ sg_l
def f114.l0.F (n m:Nat) (v:Nat × List T × Nat × List T × Int):=f114.l0 n m v.1 v.2.1 v.2.2.1 v.2.2.2.1 v.2.2.2.2
def f114.l0.W (n:Nat):LpW:=.of 48 f114.l0.P sg_lli f114.l0.A (f114.l0.F n n)
def f114.P:List Arg:=[qA18]
def f114.A:RAlt (Nat × List T):=.one ⟨[qV13],[none]⟩ sg_l
def f114.F (n:Nat) (v:Nat × List T):=f114 n v.1 v.2
def f114.O (n:Nat):Orc:=orcOf (E:=E) [] [f114.l0.W n] n
theorem f114.l0.ok:∀ n,LpS 114 c114 0 n (f114.O n):=lpS f114.l0.P sg_lli f114.l0.A f114.l0.F
theorem f114.ok:FnS 114 f114.P sg_l f114.A f114.F:=fnS c114 f114.O [loopAt c114 0] (fun n=>(.cons (f114.l0.ok n) .nil))
def f114.w:FnW E:=fnW 114 f114.P sg_l f114.A f114.F f114.ok
def f88:Nat→Int→Int→Nat→List T→Option (Int × Int × Nat × List T)
 | 0,_,_,_,_=>none
 | n+1,i1,i2,n3,l4 =>
   bd (f114 n n3 l4) fun r5 =>
   let n6:=r5.1
   let l7:=r5.2
   some (i1,i2,n6,l7)
def sg_iil:Sig (Int × Int × Nat × List T) where
 pk:=fun v=>[.int v.1,.int v.2.1,.lst v.2.2.1 v.2.2.2]
 up:=fun ls=>match ls with
  | [.int a0,.int a1,.lst a2 a3]=>some (a0,a1,a2,a3)
  | _=>none
 ok:=by intro _ _ h;split at h <;>cases h;rfl
def f88.P:List Arg:=[qA23]
def f88.A:RAlt (Int × Int × Nat × List T):=.one ⟨[⟨true,[.leaf,.leaf,.sl .own [.leaf]],[.int .i64 0,.int .i64 0,.lst 0 []]⟩],[none]⟩ sg_iil
def f88.F (n:Nat) (v:Int × Int × Nat × List T):=f88 n v.1 v.2.1 v.2.2.1 v.2.2.2
def f88.O (n:Nat):Orc:=orcOf (E:=E) [f114.w] [] n
theorem f88.ok:FnS 88 f88.P sg_iil f88.A f88.F:=fnS c88 f88.O
def f88.w:FnW E:=fnW 88 f88.P sg_iil f88.A f88.F f88.ok
def f47.l0 (n:Nat):Nat→Nat→List T→Nat→List T→Int→Option (Nat × List T)
 | 0,_,_,_,_,_=>none
 | m+1,n1,l2,n3,l4,i5 =>
   br (decide (i5<(n1:Int))) (
    gd ((decide ((0≤i5)∧(i5<(n1:Int))))&&(okAt [(CK.int .i64),(CK.int .i64),CK.lst] l2 (((Int.toNat i5) * 3)+0))) (
    bd (f88 n (iAt l2 (((Int.toNat i5) * 3)+0)) (iAt l2 ((((Int.toNat i5) * 3)+0)+1)) (nAt l2 (((((Int.toNat i5) * 3)+0)+1)+1)) (lAt l2 (((((Int.toNat i5) * 3)+0)+1)+1))) fun r6 =>
    let i7:=r6.1
    let i8:=r6.2.1
    let n9:=r6.2.2.1
    let l10:=r6.2.2.2
    gd (decide ((0≤i5)∧(i5<(n3:Int)))) (
    gd (Nat.ble ((((Int.toNat i5) * 3)+0)+3) (List.length l4)) (
    let l11:=(setN l4 (((Int.toNat i5) * 3)+0) [(T.int .i64 i7),(T.int .i64 i8),(T.lst n9 l10)])
    f47.l0 n m n1 l2 n3 l11 (IntKind.i64.wrap (i5+(1:Int))))))) (
    some (n3,l4))
def f47:Nat→Nat→List T→Option (Nat × List T)
 | 0,_,_=>none
 | n+1,n1,l2 =>
   gd (decide ((0≤(n1:Int))∧((n1:Int)≤(2147483648:Int)))) (
   let l3:=(reps n1 [(T.int .i64 (0:Int)),(T.int .i64 (0:Int)),(T.lst 0 [])])
   bd (f47.l0 n n n1 l2 n1 l3 (0:Int)) fun r4 =>
   let n5:=r4.1
   let l6:=r4.2
   some (n5,l6))
def f47.l0.P:AS:=⟨[(0,qS35),(3,qS36),(4,qS42)],0⟩
def f47.l0.A:Alt (Nat × List T):=.one (.exit 0) ⟨[(3,qS36)],0⟩ sg_l
def f47.l0.F (n m:Nat) (v:Nat × List T × Nat × List T × Int):=f47.l0 n m v.1 v.2.1 v.2.2.1 v.2.2.2.1 v.2.2.2.2
def f47.l0.W (n:Nat):LpW:=.of 48 f47.l0.P sg_lli f47.l0.A (f47.l0.F n n)
def f47.P:List Arg:=[qA24]
def f47.A:RAlt (Nat × List T):=.one ⟨[qV10],[none]⟩ sg_l
def f47.F (n:Nat) (v:Nat × List T):=f47 n v.1 v.2
def f47.O (n:Nat):Orc:=orcOf (E:=E) [f88.w] [f47.l0.W n] n
theorem f47.l0.ok:∀ n,LpS 47 c47 0 n (f47.O n):=lpS f47.l0.P sg_lli f47.l0.A f47.l0.F
theorem f47.ok:FnS 47 f47.P sg_l f47.A f47.F:=fnS c47 f47.O [loopAt c47 0] (fun n=>(.cons (f47.l0.ok n) .nil))
def f47.w:FnW E:=fnW 47 f47.P sg_l f47.A f47.F f47.ok
def f150:Nat→Int→Int→Nat→List T→Option (Int × Int × Nat × List T)
 | 0,_,_,_,_=>none
 | n+1,i1,i2,n3,l4 =>
   bd (f114 n n3 l4) fun r5 =>
   let n6:=r5.1
   let l7:=r5.2
   some (i1,i2,n6,l7)
def f150.P:List Arg:=[qA23]
def f150.A:RAlt (Int × Int × Nat × List T):=.one ⟨[⟨true,[.leaf,.leaf,.sl .own [.leaf]],[.int .i64 0,.int .i64 0,.lst 0 []]⟩],[none]⟩ sg_iil
def f150.F (n:Nat) (v:Int × Int × Nat × List T):=f150 n v.1 v.2.1 v.2.2.1 v.2.2.2
def f150.O (n:Nat):Orc:=orcOf (E:=E) [f114.w] [] n
theorem f150.ok:FnS 150 f150.P sg_iil f150.A f150.F:=fnS c150 f150.O
def f150.w:FnW E:=fnW 150 f150.P sg_iil f150.A f150.F f150.ok
def f115.l0 (n:Nat):Nat→Nat→List T→Nat→List T→Int→Option (Nat × List T)
 | 0,_,_,_,_,_=>none
 | m+1,n1,l2,n3,l4,i5 =>
   br (decide (i5<(n1:Int))) (
    gd ((decide ((0≤i5)∧(i5<(n1:Int))))&&(okAt [(CK.int .i64),(CK.int .i64),CK.lst] l2 (((Int.toNat i5) * 3)+0))) (
    bd (f150 n (iAt l2 (((Int.toNat i5) * 3)+0)) (iAt l2 ((((Int.toNat i5) * 3)+0)+1)) (nAt l2 (((((Int.toNat i5) * 3)+0)+1)+1)) (lAt l2 (((((Int.toNat i5) * 3)+0)+1)+1))) fun r6 =>
    let i7:=r6.1
    let i8:=r6.2.1
    let n9:=r6.2.2.1
    let l10:=r6.2.2.2
    gd (decide ((0≤i5)∧(i5<(n3:Int)))) (
    gd (Nat.ble ((((Int.toNat i5) * 3)+0)+3) (List.length l4)) (
    let l11:=(setN l4 (((Int.toNat i5) * 3)+0) [(T.int .i64 i7),(T.int .i64 i8),(T.lst n9 l10)])
    f115.l0 n m n1 l2 n3 l11 (IntKind.i64.wrap (i5+(1:Int))))))) (
    some (n3,l4))
def f115:Nat→Nat→List T→Option (Nat × List T)
 | 0,_,_=>none
 | n+1,n1,l2 =>
   gd (decide ((0≤(n1:Int))∧((n1:Int)≤(2147483648:Int)))) (
   let l3:=(reps n1 [(T.int .i64 (0:Int)),(T.int .i64 (0:Int)),(T.lst 0 [])])
   bd (f115.l0 n n n1 l2 n1 l3 (0:Int)) fun r4 =>
   let n5:=r4.1
   let l6:=r4.2
   some (n5,l6))
def f115.l0.P:AS:=⟨[(0,qS35),(3,qS36),(4,qS42)],0⟩
def f115.l0.A:Alt (Nat × List T):=.one (.exit 0) ⟨[(3,qS36)],0⟩ sg_l
def f115.l0.F (n m:Nat) (v:Nat × List T × Nat × List T × Int):=f115.l0 n m v.1 v.2.1 v.2.2.1 v.2.2.2.1 v.2.2.2.2
def f115.l0.W (n:Nat):LpW:=.of 48 f115.l0.P sg_lli f115.l0.A (f115.l0.F n n)
def f115.P:List Arg:=[qA24]
def f115.A:RAlt (Nat × List T):=.one ⟨[qV10],[none]⟩ sg_l
def f115.F (n:Nat) (v:Nat × List T):=f115 n v.1 v.2
def f115.O (n:Nat):Orc:=orcOf (E:=E) [f150.w] [f115.l0.W n] n
theorem f115.l0.ok:∀ n,LpS 115 c115 0 n (f115.O n):=lpS f115.l0.P sg_lli f115.l0.A f115.l0.F
theorem f115.ok:FnS 115 f115.P sg_l f115.A f115.F:=fnS c115 f115.O [loopAt c115 0] (fun n=>(.cons (f115.l0.ok n) .nil))
def f115.w:FnW E:=fnW 115 f115.P sg_l f115.A f115.F f115.ok
def f89:Nat→Nat→List T→Int→Nat→Bool→Bool→Option (Nat × List T × Int × Nat × Bool × Bool)
 | 0,_,_,_,_,_,_=>none
 | n+1,n1,l2,i3,x4,b5,b6 =>
   bd (f115 n n1 l2) fun r7 =>
   let n8:=r7.1
   let l9:=r7.2
   some (n8,l9,i3,x4,b5,b6)
def sg_lifbb:Sig (Nat × List T × Int × Nat × Bool × Bool) where
 pk:=fun v=>[.lst v.1 v.2.1,.int v.2.2.1,.flt v.2.2.2.1,.bool v.2.2.2.2.1,.bool v.2.2.2.2.2]
 up:=fun ls=>match ls with
  | [.lst a0 a1,.int a2,.flt a3,.bool a4,.bool a5]=>some (a0,a1,a2,a3,a4,a5)
  | _=>none
 ok:=by intro _ _ h;split at h <;>cases h;rfl
def f89.P:List Arg:=[qA25]
def f89.A:RAlt (Nat × List T × Int × Nat × Bool × Bool):=.one ⟨[⟨true,[.sl .own [.leaf,.leaf,.sl .own [.leaf]],.leaf,.leaf,.leaf,.leaf],[.lst 0 [],.int .i64 0,.flt .f32 0,.bool false,.bool false]⟩],[none]⟩ sg_lifbb
def f89.F (n:Nat) (v:Nat × List T × Int × Nat × Bool × Bool):=f89 n v.1 v.2.1 v.2.2.1 v.2.2.2.1 v.2.2.2.2.1 v.2.2.2.2.2
def f89.O (n:Nat):Orc:=orcOf (E:=E) [f115.w] [] n
theorem f89.ok:FnS 89 f89.P sg_lifbb f89.A f89.F:=fnS c89 f89.O
def f89.w:FnW E:=fnW 89 f89.P sg_lifbb f89.A f89.F f89.ok
def f48.l0 (n:Nat):Nat→Nat→List T→Nat→List T→Int→Option (Nat × List T)
 | 0,_,_,_,_,_=>none
 | m+1,n1,l2,n3,l4,i5 =>
   br (decide (i5<(n1:Int))) (
    gd ((decide ((0≤i5)∧(i5<(n1:Int))))&&(okAt [CK.lst,(CK.int .i64),(CK.flt .f32),CK.bool,CK.bool] l2 (((Int.toNat i5) * 5)+0))) (
    bd (f89 n (nAt l2 (((Int.toNat i5) * 5)+0)) (lAt l2 (((Int.toNat i5) * 5)+0)) (iAt l2 ((((Int.toNat i5) * 5)+0)+1)) (fAt l2 (((((Int.toNat i5) * 5)+0)+1)+1)) (bAt l2 ((((((Int.toNat i5) * 5)+0)+1)+1)+1)) (bAt l2 (((((((Int.toNat i5) * 5)+0)+1)+1)+1)+1))) fun r6 =>
    let n7:=r6.1
    let l8:=r6.2.1
    let i9:=r6.2.2.1
    let x10:=r6.2.2.2.1
    let b11:=r6.2.2.2.2.1
    let b12:=r6.2.2.2.2.2
    gd (decide ((0≤i5)∧(i5<(n3:Int)))) (
    gd (Nat.ble ((((Int.toNat i5) * 5)+0)+5) (List.length l4)) (
    let l13:=(setN l4 (((Int.toNat i5) * 5)+0) [(T.lst n7 l8),(T.int .i64 i9),(T.flt .f32 x10),(T.bool b11),(T.bool b12)])
    f48.l0 n m n1 l2 n3 l13 (IntKind.i64.wrap (i5+(1:Int))))))) (
    some (n3,l4))
def f48:Nat→Nat→List T→Option (Nat × List T)
 | 0,_,_=>none
 | n+1,n1,l2 =>
   gd (decide ((0≤(n1:Int))∧((n1:Int)≤(2147483648:Int)))) (
   let l3:=(reps n1 [(T.lst 0 []),(T.int .i64 (0:Int)),(T.flt .f32 0),(T.bool false),(T.bool false)])
   bd (f48.l0 n n n1 l2 n1 l3 (0:Int)) fun r4 =>
   let n5:=r4.1
   let l6:=r4.2
   some (n5,l6))
def f48.l0.P:AS:=⟨[(0,qS32),(3,.val false [.sl .own [.sl .own [.leaf,.leaf,.sl .own [.leaf]],.leaf,.leaf,.leaf,.leaf]] [.lst 0 []] [] 0),(4,qS42)],0⟩
def f48.l0.A:Alt (Nat × List T):=.one (.exit 0) ⟨[(3,.val false [.sl .own [.sl .own [.leaf,.leaf,.sl .own [.leaf]],.leaf,.leaf,.leaf,.leaf]] [.lst 0 []] [] 0)],0⟩ sg_l
def f48.l0.F (n m:Nat) (v:Nat × List T × Nat × List T × Int):=f48.l0 n m v.1 v.2.1 v.2.2.1 v.2.2.2.1 v.2.2.2.2
def f48.l0.W (n:Nat):LpW:=.of 48 f48.l0.P sg_lli f48.l0.A (f48.l0.F n n)
def f48.P:List Arg:=[qA26]
def f48.A:RAlt (Nat × List T):=.one ⟨[qV5],[none]⟩ sg_l
def f48.F (n:Nat) (v:Nat × List T):=f48 n v.1 v.2
def f48.O (n:Nat):Orc:=orcOf (E:=E) [f89.w] [f48.l0.W n] n
theorem f48.l0.ok:∀ n,LpS 48 c48 0 n (f48.O n):=lpS f48.l0.P sg_lli f48.l0.A f48.l0.F
theorem f48.ok:FnS 48 f48.P sg_l f48.A f48.F:=fnS c48 f48.O [loopAt c48 0] (fun n=>(.cons (f48.l0.ok n) .nil))
def f48.w:FnW E:=fnW 48 f48.P sg_l f48.A f48.F f48.ok
def f16:Nat→Nat→List T→Nat→List T→Option (Nat × List T × Nat × List T)
 | 0,_,_,_,_=>none
 | n+1,n1,l2,n3,l4 =>
   bd (f47 n n1 l2) fun r5 =>
   let n6:=r5.1
   let l7:=r5.2
   bd (f48 n n3 l4) fun r8 =>
   let n9:=r8.1
   let l10:=r8.2
   some (n6,l7,n9,l10)
def sg_ll:Sig (Nat × List T × Nat × List T) where
 pk:=fun v=>[.lst v.1 v.2.1,.lst v.2.2.1 v.2.2.2]
 up:=fun ls=>match ls with
  | [.lst a0 a1,.lst a2 a3]=>some (a0,a1,a2,a3)
  | _=>none
 ok:=by intro _ _ h;split at h <;>cases h;rfl
def f16.P:List Arg:=[qA27]
def f16.A:RAlt (Nat × List T × Nat × List T):=.one ⟨[qV1],[none]⟩ sg_ll
def f16.F (n:Nat) (v:Nat × List T × Nat × List T):=f16 n v.1 v.2.1 v.2.2.1 v.2.2.2
def f16.O (n:Nat):Orc:=orcOf (E:=E) [f47.w,f48.w] [] n
theorem f16.ok:FnS 16 f16.P sg_ll f16.A f16.F:=fnS c16 f16.O
def f16.w:FnW E:=fnW 16 f16.P sg_ll f16.A f16.F f16.ok
def f38:Nat→Int→Int→Int→Option (Bool)
 | 0,_,_,_=>none
 | n+1,i1,i2,i3 =>
   br (decide (i1≥i2)) (
    some (decide (i1≤i3))) (
    some false)
def sg_iii:Sig (Int × Int × Int) where
 pk:=fun v=>[.int v.1,.int v.2.1,.int v.2.2]
 up:=fun ls=>match ls with
  | [.int a0,.int a1,.int a2]=>some (a0,a1,a2)
  | _=>none
 ok:=by intro _ _ h;split at h <;>cases h;rfl
def sg_b:Sig (Bool) where
 pk:=fun v=>[.bool v]
 up:=fun ls=>match ls with
  | [.bool a0]=>some a0
  | _=>none
 ok:=by intro _ _ h;split at h <;>cases h;rfl
def f38.P:List Arg:=[qA19,qA19,qA19]
def f38.A:RAlt (Bool):=.one ⟨[qV15],[none,none,none]⟩ sg_b
def f38.F (n:Nat) (v:Int × Int × Int):=f38 n v.1 v.2.1 v.2.2
def f38.O (n:Nat):Orc:=orcOf (E:=E) [] [] n
theorem f38.ok:FnS 38 f38.P sg_iii f38.A f38.F:=fnS c38 f38.O
def f38.w:FnW E:=fnW 38 f38.P sg_iii f38.A f38.F f38.ok
def f44:Nat→Nat→List T→Int→Nat→Bool→Bool→Nat→List T→Option (Nat × List T × Int × Nat × Bool × Bool × Nat × List T)
 | 0,_,_,_,_,_,_,_,_=>none
 | n+1,n1,l2,i3,x4,b5,b6,n7,l8 =>
   some (n7,l8,i3,x4,b5,b6,n7,l8)
def sg_lifbbl:Sig (Nat × List T × Int × Nat × Bool × Bool × Nat × List T) where
 pk:=fun v=>[.lst v.1 v.2.1,.int v.2.2.1,.flt v.2.2.2.1,.bool v.2.2.2.2.1,.bool v.2.2.2.2.2.1,.lst v.2.2.2.2.2.2.1 v.2.2.2.2.2.2.2]
 up:=fun ls=>match ls with
  | [.lst a0 a1,.int a2,.flt a3,.bool a4,.bool a5,.lst a6 a7]=>some (a0,a1,a2,a3,a4,a5,a6,a7)
  | _=>none
 ok:=by intro _ _ h;split at h <;>cases h;rfl
def f44.P:List Arg:=[⟨.val,⟨false,[.rf .shr [.sl .shr [.leaf,.leaf,.sl .shr [.leaf]],.leaf,.leaf,.leaf,.leaf]],[.ref [.lst 0 [],.int .i64 0,.flt .f32 0,.bool false,.bool false]]⟩⟩,⟨.io,qV13⟩]
def f44.A:RAlt (Nat × List T × Int × Nat × Bool × Bool × Nat × List T):=.one ⟨[⟨true,[.sl .own [.leaf],.leaf,.leaf,.leaf,.leaf],[.lst 0 [],.int .i64 0,.flt .f32 0,.bool false,.bool false]⟩],[none,some ⟨false,[.dead],[.lst 0 []]⟩]⟩ sg_lifbbl
def f44.F (n:Nat) (v:Nat × List T × Int × Nat × Bool × Bool × Nat × List T):=f44 n v.1 v.2.1 v.2.2.1 v.2.2.2.1 v.2.2.2.2.1 v.2.2.2.2.2.1 v.2.2.2.2.2.2.1 v.2.2.2.2.2.2.2
def f44.O (n:Nat):Orc:=orcOf (E:=E) [] [] n
theorem f44.ok:FnS 44 f44.P sg_lifbbl f44.A f44.F:=fnS c44 f44.O
def f44.w:FnW E:=fnW 44 f44.P sg_lifbbl f44.A f44.F f44.ok
def f93:Nat→Int→Int→Option (Int × Int)
 | 0,_,_=>none
 | n+1,i1,i2 =>
   br (i1==(0:Int)) (
    br (i1==(0:Int)) (
     some ((1:Int),(0:Int))) (
     br (i1==(1:Int)) (
      some ((5:Int),(2:Int))) (
      br (i1==(2:Int)) (
       some ((2:Int),i2)) (
       br (i1==(3:Int)) (
        some ((4:Int),(1:Int))) (
        br (i1==(5:Int)) (
         some ((0:Int),(0:Int))) (
         br (i1==(6:Int)) (
          some ((2:Int),(IntKind.i64.wrap ((1:Int)+i2)))) (
          some ((-1:Int),(-1:Int))))))))) (
    br (i1==(4:Int)) (
     some ((1:Int),(0:Int))) (
     br (i1==(1:Int)) (
      some ((5:Int),(2:Int))) (
      br (i1==(2:Int)) (
       some ((2:Int),i2)) (
       br (i1==(3:Int)) (
        some ((4:Int),(1:Int))) (
        br (i1==(5:Int)) (
         some ((0:Int),(0:Int))) (
         br (i1==(6:Int)) (
          some ((2:Int),(IntKind.i64.wrap ((1:Int)+i2)))) (
          some ((-1:Int),(-1:Int)))))))))
def sg_ii:Sig (Int × Int) where
 pk:=fun v=>[.int v.1,.int v.2]
 up:=fun ls=>match ls with
  | [.int a0,.int a1]=>some (a0,a1)
  | _=>none
 ok:=by intro _ _ h;split at h <;>cases h;rfl
def f93.P:List Arg:=[qA19,qA19]
def f93.A:RAlt (Int × Int):=.one ⟨[qV14,qV14],[none,none]⟩ sg_ii
def f93.F (n:Nat) (v:Int × Int):=f93 n v.1 v.2
def f93.O (n:Nat):Orc:=orcOf (E:=E) [] [] n
theorem f93.ok:FnS 93 f93.P sg_ii f93.A f93.F:=fnS c93 f93.O
def f93.w:FnW E:=fnW 93 f93.P sg_ii f93.A f93.F f93.ok
def f171:Nat→Nat→Option (Bool)
 | 0,_=>none
 | n+1,x1 =>
   some (feq .f32 (fsub .f32 x1 x1) 0)
def sg_f:Sig (Nat) where
 pk:=fun v=>[.flt v]
 up:=fun ls=>match ls with
  | [.flt a0]=>some a0
  | _=>none
 ok:=by intro _ _ h;split at h <;>cases h;rfl
def f171.P:List Arg:=[qA20]
def f171.A:RAlt (Bool):=.one ⟨[qV15],[none]⟩ sg_b
def f171.F (n:Nat) (v:Nat):=f171 n v
def f171.O (n:Nat):Orc:=orcOf (E:=E) [] [] n
theorem f171.ok:FnS 171 f171.P sg_f f171.A f171.F:=fnS c171 f171.O
def f171.w:FnW E:=fnW 171 f171.P sg_f f171.A f171.F f171.ok
def f147:Nat→Nat→Option (Bool)
 | 0,_=>none
 | n+1,x1 =>
   bd (f171 n x1) fun r2 =>
   let b3:=r2
   br b3 (
    some (fgt .f32 x1 0)) (
    some false)
def f147.P:List Arg:=[qA20]
def f147.A:RAlt (Bool):=.one ⟨[qV15],[none]⟩ sg_b
def f147.F (n:Nat) (v:Nat):=f147 n v
def f147.O (n:Nat):Orc:=orcOf (E:=E) [f171.w] [] n
theorem f147.ok:FnS 147 f147.P sg_f f147.A f147.F:=fnS c147 f147.O
def f147.w:FnW E:=fnW 147 f147.P sg_f f147.A f147.F f147.ok
def f107:Nat→Int→Int→Nat→List T→Option (Bool)
 | 0,_,_,_,_=>none
 | n+1,i1,i2,n3,l4 =>
   br (i1==(2:Int)) (
    br (i1==(6:Int)) (
     bd (f38 n i2 (1:Int) (32:Int)) fun r5 =>
     let b6:=r5
     br (!b6) (
      some false) (
      bd (f93 n i1 i2) fun r7 =>
      let i8:=r7.1
      br ((n3:Int)==i8) (
       br (i1 != (6:Int)) (
        some true) (
        gd ((decide ((0≤(0:Int))∧((0:Int)<(n3:Int))))&&(okAt [(CK.flt .f32)] l4 0)) (
        bd (f147 n (fAt l4 0)) fun r10 =>
        let b11:=r10
        some b11))) (
       some false))) (
     bd (f38 n i2 (1:Int) (32:Int)) fun r12 =>
     let b13:=r12
     br (!b13) (
      some false) (
      bd (f93 n i1 i2) fun r14 =>
      let i15:=r14.1
      br ((n3:Int)==i15) (
       br (i1 != (6:Int)) (
        some true) (
        gd ((decide ((0≤(0:Int))∧((0:Int)<(n3:Int))))&&(okAt [(CK.flt .f32)] l4 0)) (
        bd (f147 n (fAt l4 0)) fun r17 =>
        let b18:=r17
        some b18))) (
       some false)))) (
    br (i1==(6:Int)) (
     bd (f38 n i2 (0:Int) (32:Int)) fun r19 =>
     let b20:=r19
     br (!b20) (
      some false) (
      bd (f93 n i1 i2) fun r21 =>
      let i22:=r21.1
      br ((n3:Int)==i22) (
       br (i1 != (6:Int)) (
        some true) (
        gd ((decide ((0≤(0:Int))∧((0:Int)<(n3:Int))))&&(okAt [(CK.flt .f32)] l4 0)) (
        bd (f147 n (fAt l4 0)) fun r24 =>
        let b25:=r24
        some b25))) (
       some false))) (
     bd (f38 n i2 (0:Int) (0:Int)) fun r26 =>
     let b27:=r26
     br (!b27) (
      some false) (
      bd (f93 n i1 i2) fun r28 =>
      let i29:=r28.1
      br ((n3:Int)==i29) (
       br (i1 != (6:Int)) (
        some true) (
        gd ((decide ((0≤(0:Int))∧((0:Int)<(n3:Int))))&&(okAt [(CK.flt .f32)] l4 0)) (
        bd (f147 n (fAt l4 0)) fun r31 =>
        let b32:=r31
        some b32))) (
       some false))))
def f107.P:List Arg:=[⟨.val,⟨false,[.rf .shr [.leaf,.leaf,.sl .shr [.leaf]]],[.ref [.int .i64 0,.int .i64 0,.lst 0 []]]⟩⟩]
def f107.A:RAlt (Bool):=.one ⟨[qV15],[none]⟩ sg_b
def f107.F (n:Nat) (v:Int × Int × Nat × List T):=f107 n v.1 v.2.1 v.2.2.1 v.2.2.2
def f107.O (n:Nat):Orc:=orcOf (E:=E) [f38.w,f93.w,f147.w] [] n
theorem f107.ok:FnS 107 f107.P sg_iil f107.A f107.F:=fnS c107 f107.O
def f107.w:FnW E:=fnW 107 f107.P sg_iil f107.A f107.F f107.ok
def f78.l0 (n:Nat):Nat→Nat→List T→Int→Option ((Bool) ⊕ (Nat × List T))
 | 0,_,_,_=>none
 | m+1,n1,l2,i3 =>
   br (decide (i3<(n1:Int))) (
    br (decide ((n1:Int)≤(8:Int))) (
     gd ((decide ((0≤i3)∧(i3<(n1:Int))))&&(okAt [(CK.int .i64),(CK.int .i64),CK.lst] l2 (((Int.toNat i3) * 3)+0))) (
     bd (f107 n (iAt l2 (((Int.toNat i3) * 3)+0)) (iAt l2 ((((Int.toNat i3) * 3)+0)+1)) (nAt l2 (((((Int.toNat i3) * 3)+0)+1)+1)) (lAt l2 (((((Int.toNat i3) * 3)+0)+1)+1))) fun r4 =>
     let b5:=r4
     br (!b5) (
      some (Sum.inl false)) (
      f78.l0 n m n1 l2 (IntKind.i64.wrap (i3+(1:Int)))))) (
     some (Sum.inr (n1,l2)))) (
    some (Sum.inr (n1,l2)))
def f78:Nat→Nat→List T→Option (Bool)
 | 0,_,_=>none
 | n+1,n1,l2 =>
   bd (f78.l0 n n n1 l2 (0:Int)) fun r3 =>
   sm r3 (fun u4 =>
    let b5:=u4
    some b5) (fun u6 =>
    let n7:=u6.1
    let l8:=u6.2
    some (decide ((n7:Int)≤(8:Int))))
def f78.l0.P:AS:=⟨[(0,qS35),(3,qS42)],0⟩
def f78.l0.A:Alt ((Bool) ⊕ (Nat × List T)):=.or (.one .ret ⟨[(0,.dead),(2,qS43)],0⟩ sg_b) (.one (.exit 0) ⟨[(0,qS35),(2,.dead)],0⟩ sg_l)
def f78.l0.F (n m:Nat) (v:Nat × List T × Int):=f78.l0 n m v.1 v.2.1 v.2.2
def f78.l0.W (n:Nat):LpW:=.of 32 f78.l0.P sg_li f78.l0.A (f78.l0.F n n)
def f78.P:List Arg:=[qA24]
def f78.A:RAlt (Bool):=.one ⟨[qV15],[none]⟩ sg_b
def f78.F (n:Nat) (v:Nat × List T):=f78 n v.1 v.2
def f78.O (n:Nat):Orc:=orcOf (E:=E) [f107.w] [f78.l0.W n] n
theorem f78.l0.ok:∀ n,LpS 78 c78 0 n (f78.O n):=lpS f78.l0.P sg_li f78.l0.A f78.l0.F
theorem f78.ok:FnS 78 f78.P sg_l f78.A f78.F:=fnS c78 f78.O [loopAt c78 0] (fun n=>(.cons (f78.l0.ok n) .nil))
def f78.w:FnW E:=fnW 78 f78.P sg_l f78.A f78.F f78.ok
def f80:Nat→Nat→List T→Option (Bool)
 | 0,_,_=>none
 | n+1,n1,l2 =>
   some (decide ((n1:Int)≤(256:Int)))
def f80.P:List Arg:=[qA18]
def f80.A:RAlt (Bool):=.one ⟨[qV15],[none]⟩ sg_b
def f80.F (n:Nat) (v:Nat × List T):=f80 n v.1 v.2
def f80.O (n:Nat):Orc:=orcOf (E:=E) [] [] n
theorem f80.ok:FnS 80 f80.P sg_l f80.A f80.F:=fnS c80 f80.O
def f80.w:FnW E:=fnW 80 f80.P sg_l f80.A f80.F f80.ok
def f108:Nat→Nat→Option (Bool)
 | 0,_=>none
 | n+1,x1 =>
   br (fge .f32 x1 0) (
    some (fle .f32 x1 1065353216)) (
    some false)
def f108.P:List Arg:=[qA20]
def f108.A:RAlt (Bool):=.one ⟨[qV15],[none]⟩ sg_b
def f108.F (n:Nat) (v:Nat):=f108 n v
def f108.O (n:Nat):Orc:=orcOf (E:=E) [] [] n
theorem f108.ok:FnS 108 f108.P sg_f f108.A f108.F:=fnS c108 f108.O
def f108.w:FnW E:=fnW 108 f108.P sg_f f108.A f108.F f108.ok
def f79.l0 (n:Nat):Nat→Nat→List T→Int→Int→Option ((Bool) ⊕ (Nat × List T))
 | 0,_,_,_,_=>none
 | m+1,n1,l2,i3,i4 =>
   br (decide (i4<i3)) (
    gd ((decide ((0≤i4)∧(i4<(n1:Int))))&&(okAt [CK.lst,(CK.int .i64),(CK.flt .f32),CK.bool,CK.bool] l2 (((Int.toNat i4) * 5)+0))) (
    bd (f80 n (nAt l2 (((Int.toNat i4) * 5)+0)) (lAt l2 (((Int.toNat i4) * 5)+0))) fun r5 =>
    let b6:=r5
    br (!b6) (
     some (Sum.inl false)) (
     gd ((decide ((0≤i4)∧(i4<(n1:Int))))&&(okAt [CK.lst,(CK.int .i64),(CK.flt .f32),CK.bool,CK.bool] l2 (((Int.toNat i4) * 5)+0))) (
     bd (f38 n (iAt l2 ((((Int.toNat i4) * 5)+0)+1)) (-2000:Int) (2000:Int)) fun r7 =>
     let b8:=r7
     br (!b8) (
      some (Sum.inl false)) (
      gd ((decide ((0≤i4)∧(i4<(n1:Int))))&&(okAt [CK.lst,(CK.int .i64),(CK.flt .f32),CK.bool,CK.bool] l2 (((Int.toNat i4) * 5)+0))) (
      bd (f108 n (fAt l2 (((((Int.toNat i4) * 5)+0)+1)+1))) fun r9 =>
      let b10:=r9
      br (!b10) (
       some (Sum.inl false)) (
       f79.l0 n m n1 l2 i3 (IntKind.i64.wrap (i4+(1:Int)))))))))) (
    some (Sum.inr (n1,l2)))
def f79:Nat→Nat→List T→Option (Bool)
 | 0,_,_=>none
 | n+1,n1,l2 =>
   bd (f79.l0 n n n1 l2 (n1:Int) (0:Int)) fun r3 =>
   sm r3 (fun u4 =>
    let b5:=u4
    some b5) (fun u6 =>
    let n7:=u6.1
    let l8:=u6.2
    some (decide ((n7:Int)≤(8:Int))))
def f79.l0.P:AS:=⟨[(0,qS33),(5,qS42),(6,qS42)],0⟩
def f79.l0.A:Alt ((Bool) ⊕ (Nat × List T)):=.or (.one .ret ⟨[(0,.dead),(2,qS43)],0⟩ sg_b) (.one (.exit 0) ⟨[(0,qS33),(2,.dead)],0⟩ sg_l)
def f79.l0.F (n m:Nat) (v:Nat × List T × Int × Int):=f79.l0 n m v.1 v.2.1 v.2.2.1 v.2.2.2
def f79.l0.W (n:Nat):LpW:=.of 32 f79.l0.P sg_lii f79.l0.A (f79.l0.F n n)
def f79.P:List Arg:=[qA28]
def f79.A:RAlt (Bool):=.one ⟨[qV15],[none]⟩ sg_b
def f79.F (n:Nat) (v:Nat × List T):=f79 n v.1 v.2
def f79.O (n:Nat):Orc:=orcOf (E:=E) [f38.w,f80.w,f108.w] [f79.l0.W n] n
theorem f79.l0.ok:∀ n,LpS 79 c79 0 n (f79.O n):=lpS f79.l0.P sg_lii f79.l0.A f79.l0.F
theorem f79.ok:FnS 79 f79.P sg_l f79.A f79.F:=fnS c79 f79.O [loopAt c79 0] (fun n=>(.cons (f79.l0.ok n) .nil))
def f79.w:FnW E:=fnW 79 f79.P sg_l f79.A f79.F f79.ok
def f37.l0 (n:Nat):Nat→Nat→List T→Nat→List T→Int→Int→Int→Option ((Bool) ⊕ (Nat × List T × Nat × List T × Int))
 | 0,_,_,_,_,_,_,_=>none
 | m+1,n1,l2,n3,l4,i5,i6,i7 =>
   br (decide (i7<i6)) (
    gd ((decide ((0≤i7)∧(i7<(n3:Int))))&&(okAt [CK.lst,(CK.int .i64),(CK.flt .f32),CK.bool,CK.bool] l4 (((Int.toNat i7) * 5)+0))) (
    bd (f44 n (nAt l4 (((Int.toNat i7) * 5)+0)) (lAt l4 (((Int.toNat i7) * 5)+0)) (iAt l4 ((((Int.toNat i7) * 5)+0)+1)) (fAt l4 (((((Int.toNat i7) * 5)+0)+1)+1)) (bAt l4 ((((((Int.toNat i7) * 5)+0)+1)+1)+1)) (bAt l4 (((((((Int.toNat i7) * 5)+0)+1)+1)+1)+1)) 0 (reps 0 [(T.flt .f32 0)])) fun r8 =>
    let n9:=r8.1
    let l10:=r8.2.1
    let i11:=r8.2.2.1
    let x12:=r8.2.2.2.1
    let b13:=r8.2.2.2.2.1
    let b14:=r8.2.2.2.2.2.1
    gd ((decide ((0≤i7)∧(i7<(n3:Int))))&&(okAt [CK.lst,(CK.int .i64),(CK.flt .f32),CK.bool,CK.bool] l4 (((Int.toNat i7) * 5)+0))) (
    bd (f78 n (nAt l4 (((Int.toNat i7) * 5)+0)) (lAt l4 (((Int.toNat i7) * 5)+0))) fun r17 =>
    let b18:=r17
    br (!b18) (
     some (Sum.inl false)) (
     bd (f79 n 1 (setN (reps 1 [(T.lst 0 []),(T.int .i64 (0:Int)),(T.flt .f32 0),(T.bool false),(T.bool false)]) 0 [(T.lst n9 l10),(T.int .i64 i11),(T.flt .f32 x12),(T.bool b13),(T.bool b14)])) fun r19 =>
     let b20:=r19
     br (!b20) (
      some (Sum.inl false)) (
      f37.l0 n m n1 l2 n3 l4 i5 i6 (IntKind.i64.wrap (i7+(1:Int)))))))) (
    some (Sum.inr (n1,l2,n3,l4,i5)))
def f37.l1 (n:Nat):Nat→Nat→List T→Nat→List T→Int→Int→Int→Option ((Bool) ⊕ (Unit))
 | 0,_,_,_,_,_,_,_=>none
 | m+1,n1,l2,n3,l4,i5,i6,i7 =>
   br (decide (i7<i6)) (
    gd ((decide ((0≤i7)∧(i7<(n1:Int))))&&(okAt [(CK.int .i64),(CK.int .i64),CK.lst] l2 (((Int.toNat i7) * 3)+0))) (
    bd (f38 n (iAt l2 (((Int.toNat i7) * 3)+0)) (0:Int) (IntKind.i64.wrap (i5 - (1:Int)))) fun r8 =>
    let b9:=r8
    br (!b9) (
     some (Sum.inl false)) (
     gd ((decide ((0≤i7)∧(i7<(n1:Int))))&&(okAt [(CK.int .i64),(CK.int .i64),CK.lst] l2 (((Int.toNat i7) * 3)+0))) (
     bd (f38 n (iAt l2 ((((Int.toNat i7) * 3)+0)+1)) (0:Int) (256:Int)) fun r10 =>
     let b11:=r10
     br (!b11) (
      some (Sum.inl false)) (
      gd ((decide ((0≤i7)∧(i7<(n1:Int))))&&(okAt [(CK.int .i64),(CK.int .i64),CK.lst] l2 (((Int.toNat i7) * 3)+0))) (
      bd (f80 n (nAt l2 (((((Int.toNat i7) * 3)+0)+1)+1)) (lAt l2 (((((Int.toNat i7) * 3)+0)+1)+1))) fun r12 =>
      let b13:=r12
      br (!b13) (
       some (Sum.inl false)) (
       f37.l1 n m n1 l2 n3 l4 i5 i6 (IntKind.i64.wrap (i7+(1:Int)))))))))) (
    some (Sum.inr ()))
def f37:Nat→Nat→List T→Nat→List T→Option (Bool)
 | 0,_,_,_,_=>none
 | n+1,n1,l2,n3,l4 =>
   let i5:=(n3:Int)
   bd (f38 n i5 (1:Int) (8:Int)) fun r6 =>
   let b7:=r6
   br (!b7) (
    some false) (
    br (decide ((n1:Int)>(12:Int))) (
     some false) (
     bd (f37.l0 n n n1 l2 n3 l4 i5 (n3:Int) (0:Int)) fun r8 =>
     sm r8 (fun u9 =>
      let b10:=u9
      some b10) (fun u11 =>
      let n12:=u11.1
      let l13:=u11.2.1
      let n14:=u11.2.2.1
      let l15:=u11.2.2.2.1
      let i16:=u11.2.2.2.2
      bd (f37.l1 n n n12 l13 n14 l15 i16 (n12:Int) (0:Int)) fun r17 =>
      sm r17 (fun u18 =>
       let b19:=u18
       some b19) (fun u20 =>
       some true))))
def sg_lliii:Sig (Nat × List T × Nat × List T × Int × Int × Int) where
 pk:=fun v=>[.lst v.1 v.2.1,.lst v.2.2.1 v.2.2.2.1,.int v.2.2.2.2.1,.int v.2.2.2.2.2.1,.int v.2.2.2.2.2.2]
 up:=fun ls=>match ls with
  | [.lst a0 a1,.lst a2 a3,.int a4,.int a5,.int a6]=>some (a0,a1,a2,a3,a4,a5,a6)
  | _=>none
 ok:=by intro _ _ h;split at h <;>cases h;rfl
def sg:Sig (Unit) where
 pk:=fun v=>[]
 up:=fun ls=>match ls with
  | []=>some ()
  | _=>none
 ok:=by intro _ _ h;split at h <;>cases h;rfl
def f37.l0.P:AS:=⟨[(0,qS31),(3,qS42),(27,qS42),(28,qS42)],0⟩
def f37.l0.A:Alt ((Bool) ⊕ (Nat × List T × Nat × List T × Int)):=.or (.one .ret ⟨[(0,.dead),(2,qS43),(3,.dead),(100,.dead)],0⟩ sg_b) (.one (.exit 0) ⟨[(0,qS31),(2,.dead),(3,qS42),(100,.dead)],0⟩ sg_lli)
def f37.l0.F (n m:Nat) (v:Nat × List T × Nat × List T × Int × Int × Int):=f37.l0 n m v.1 v.2.1 v.2.2.1 v.2.2.2.1 v.2.2.2.2.1 v.2.2.2.2.2.1 v.2.2.2.2.2.2
def f37.l0.W (n:Nat):LpW:=.of 80 f37.l0.P sg_lliii f37.l0.A (f37.l0.F n n)
def f37.l1.P:AS:=⟨[(0,qS31),(3,qS42),(60,qS42),(61,qS42)],0⟩
def f37.l1.A:Alt ((Bool) ⊕ (Unit)):=.or (.one .ret ⟨[(2,qS43)],0⟩ sg_b) (.one (.exit 2) ⟨[(2,.dead)],0⟩ sg)
def f37.l1.F (n m:Nat) (v:Nat × List T × Nat × List T × Int × Int × Int):=f37.l1 n m v.1 v.2.1 v.2.2.1 v.2.2.2.1 v.2.2.2.2.1 v.2.2.2.2.2.1 v.2.2.2.2.2.2
def f37.l1.W (n:Nat):LpW:=.of 192 f37.l1.P sg_lliii f37.l1.A (f37.l1.F n n)
def f37.P:List Arg:=[⟨.val,⟨false,[.rf .shr [.sl .shr [.leaf,.leaf,.sl .shr [.leaf]],.sl .shr [.sl .shr [.leaf,.leaf,.sl .shr [.leaf]],.leaf,.leaf,.leaf,.leaf]]],[.ref [.lst 0 [],.lst 0 []]]⟩⟩]
def f37.A:RAlt (Bool):=.one ⟨[qV15],[none]⟩ sg_b
def f37.F (n:Nat) (v:Nat × List T × Nat × List T):=f37 n v.1 v.2.1 v.2.2.1 v.2.2.2
def f37.O (n:Nat):Orc:=orcOf (E:=E) [f38.w,f44.w,f78.w,f80.w,f79.w] [f37.l0.W n,f37.l1.W n] n
theorem f37.l0.ok:∀ n,LpS 37 c37 0 n (f37.O n):=lpS f37.l0.P sg_lliii f37.l0.A f37.l0.F
theorem f37.l1.ok:∀ n,LpS 37 c37 1 n (f37.O n):=lpS f37.l1.P sg_lliii f37.l1.A f37.l1.F
theorem f37.ok:FnS 37 f37.P sg_ll f37.A f37.F:=fnS c37 f37.O [loopAt c37 0,loopAt c37 1] (fun n=>(.cons (f37.l0.ok n) (.cons (f37.l1.ok n) .nil)))
def f37.w:FnW E:=fnW 37 f37.P sg_ll f37.A f37.F f37.ok
def f43:Nat→Int→Option (Bool)
 | 0,_=>none
 | n+1,i1 =>
   bd (f38 n i1 (0:Int) (256:Int)) fun r2 =>
   let b3:=r2
   some b3
def f43.P:List Arg:=[qA19]
def f43.A:RAlt (Bool):=.one ⟨[qV15],[none]⟩ sg_b
def f43.F (n:Nat) (v:Int):=f43 n v
def f43.O (n:Nat):Orc:=orcOf (E:=E) [f38.w] [] n
theorem f43.ok:FnS 43 f43.P sg_i f43.A f43.F:=fnS c43 f43.O
def f43.w:FnW E:=fnW 43 f43.P sg_i f43.A f43.F f43.ok
def f54.l0 (n:Nat):Nat→Nat→List T→Nat→List T→Int→Option (Nat × List T)
 | 0,_,_,_,_,_=>none
 | m+1,n1,l2,n3,l4,i5 =>
   br (decide (i5<(n1:Int))) (
    gd ((decide ((0≤i5)∧(i5<(n1:Int))))&&(okAt [(CK.int .i64),(CK.int .i64),CK.lst] l2 (((Int.toNat i5) * 3)+0))) (
    gd ((decide ((0≤i5)∧(i5<(n1:Int))))&&(okAt [(CK.int .i64),(CK.int .i64),CK.lst] l2 (((Int.toNat i5) * 3)+0))) (
    bd (f93 n (iAt l2 (((Int.toNat i5) * 3)+0)) (iAt l2 ((((Int.toNat i5) * 3)+0)+1))) fun r6 =>
    let i8:=r6.2
    gd (decide ((0≤i8)∧(i8≤(2147483648:Int)))) (
    let n9:=(Int.toNat i8)
    let l10:=(reps (Int.toNat i8) [(T.flt .f32 0)])
    gd ((decide ((0≤i5)∧(i5<(n1:Int))))&&(okAt [(CK.int .i64),(CK.int .i64),CK.lst] l2 (((Int.toNat i5) * 3)+0))) (
    br ((iAt l2 (((Int.toNat i5) * 3)+0))==(6:Int)) (
     gd (decide ((0≤(0:Int))∧((0:Int)<(n9:Int)))) (
     gd (Nat.ble 1 (List.length l10)) (
     let l11:=(setN l10 0 [(T.flt .f32 1065353216)])
     gd (Nat.ble (n3+1) 2147483648) (
     let n12:=(n3+1)
     let l13:=(l4++(setN (reps 1 [(T.lst 0 [])]) 0 [(T.lst n9 l11)]))
     f54.l0 n m n1 l2 n12 l13 (IntKind.i64.wrap (i5+(1:Int))))))) (
     gd (Nat.ble (n3+1) 2147483648) (
     let n14:=(n3+1)
     let l15:=(l4++(setN (reps 1 [(T.lst 0 [])]) 0 [(T.lst n9 l10)]))
     f54.l0 n m n1 l2 n14 l15 (IntKind.i64.wrap (i5+(1:Int)))))))))) (
    some (n3,l4))
def f54:Nat→Nat→List T→Option (Nat × List T)
 | 0,_,_=>none
 | n+1,n1,l2 =>
   bd (f54.l0 n n n1 l2 0 (reps 0 [(T.lst 0 [])]) (0:Int)) fun r3 =>
   let n4:=r3.1
   let l5:=r3.2
   some (n4,l5)
def f54.l0.P:AS:=⟨[(0,qS35),(3,qS39),(4,qS42)],0⟩
def f54.l0.A:Alt (Nat × List T):=.one (.exit 0) ⟨[(3,qS39)],0⟩ sg_l
def f54.l0.F (n m:Nat) (v:Nat × List T × Nat × List T × Int):=f54.l0 n m v.1 v.2.1 v.2.2.1 v.2.2.2.1 v.2.2.2.2
def f54.l0.W (n:Nat):LpW:=.of 48 f54.l0.P sg_lli f54.l0.A (f54.l0.F n n)
def f54.P:List Arg:=[qA24]
def f54.A:RAlt (Nat × List T):=.one ⟨[qV11],[none]⟩ sg_l
def f54.F (n:Nat) (v:Nat × List T):=f54 n v.1 v.2
def f54.O (n:Nat):Orc:=orcOf (E:=E) [f93.w] [f54.l0.W n] n
theorem f54.l0.ok:∀ n,LpS 54 c54 0 n (f54.O n):=lpS f54.l0.P sg_lli f54.l0.A f54.l0.F
theorem f54.ok:FnS 54 f54.P sg_l f54.A f54.F:=fnS c54 f54.O [loopAt c54 0] (fun n=>(.cons (f54.l0.ok n) .nil))
def f54.w:FnW E:=fnW 54 f54.P sg_l f54.A f54.F f54.ok
def f22.l0 (n:Nat):Nat→Int→Int→Nat→List T→Nat→List T→Nat→List T→Int→Int→Option (Int × Int × Nat × List T × Nat × List T × Nat × List T)
 | 0,_,_,_,_,_,_,_,_,_,_=>none
 | m+1,i1,i2,n3,l4,n5,l6,n7,l8,i9,i10 =>
   br (decide (i10<i9)) (
    gd ((decide ((0≤i10)∧(i10<(n5:Int))))&&(okAt [CK.lst,(CK.int .i64),(CK.flt .f32),CK.bool,CK.bool] l6 (((Int.toNat i10) * 5)+0))) (
    bd (f54 n (nAt l6 (((Int.toNat i10) * 5)+0)) (lAt l6 (((Int.toNat i10) * 5)+0))) fun r11 =>
    let n12:=r11.1
    let l13:=r11.2
    gd (Nat.ble (n7+1) 2147483648) (
    let n14:=(n7+1)
    let l15:=(l8++(setN (reps 1 [(T.lst 0 [])]) 0 [(T.lst n12 l13)]))
    f22.l0 n m i1 i2 n3 l4 n5 l6 n14 l15 i9 (IntKind.i64.wrap (i10+(1:Int)))))) (
    some (i1,i2,n3,l4,n5,l6,n7,l8))
def f55:Nat→Int→Int→Option (Int)
 | 0,_,_=>none
 | n+1,i1,i2 =>
   br (decide (i1<i2)) (
    some i1) (
    some i2)
def f55.P:List Arg:=[qA19,qA19]
def f55.A:RAlt (Int):=.one ⟨[qV14],[none,none]⟩ sg_i
def f55.F (n:Nat) (v:Int × Int):=f55 n v.1 v.2
def f55.O (n:Nat):Orc:=orcOf (E:=E) [] [] n
theorem f55.ok:FnS 55 f55.P sg_ii f55.A f55.F:=fnS c55 f55.O
def f55.w:FnW E:=fnW 55 f55.P sg_ii f55.A f55.F f55.ok
def f56.l1 (n:Nat):Nat→Nat→List T→Nat→List T→Int→Int→Nat→List T→Int→Int→Nat→List T→Int→Int→Int→Int→Option (Nat × List T × Nat × List T × Int × Int × Nat × List T × Int × Int)
 | 0,_,_,_,_,_,_,_,_,_,_,_,_,_,_,_,_=>none
 | m+1,n1,l2,n3,l4,i5,i6,n7,l8,i9,i10,n11,l12,i13,i14,i15,i16 =>
   br (decide (i16<i15)) (
    let i17:=(IntKind.i64.wrap (i10+i16))
    br (decide (i17<i6)) (
     gd (decide ((0≤i17)∧(i17<(n7:Int)))) (
     gd (okAt [(CK.flt .f32)] l8 (Int.toNat i17)) (
     gd ((decide ((0≤i16)∧(i16<(n11:Int))))&&(okAt [(CK.flt .f32)] l12 (Int.toNat i16))) (
     gd (decide ((0≤i17)∧(i17<(n7:Int)))) (
     gd (Nat.ble ((Int.toNat i17)+1) (List.length l8)) (
     let l18:=(setN l8 (Int.toNat i17) [(T.flt .f32 (fadd .f32 (fAt l8 (Int.toNat i17)) (fAt l12 (Int.toNat i16))))])
     f56.l1 n m n1 l2 n3 l4 i5 i6 n7 l18 i9 i10 n11 l12 i13 i14 i15 (IntKind.i64.wrap (i16+(1:Int))))))))) (
     f56.l1 n m n1 l2 n3 l4 i5 i6 n7 l8 i9 i10 n11 l12 i13 i14 i15 (IntKind.i64.wrap (i16+(1:Int))))) (
    some (n1,l2,n3,l4,i5,i6,n7,l8,i13,i14))
termination_by structural x=>x
def f56.l0 (n:Nat):Nat→Nat→List T→Nat→List T→Int→Int→Nat→List T→Int→Int→Option (Nat × List T)
 | 0,_,_,_,_,_,_,_,_,_,_=>none
 | m+1,n1,l2,n3,l4,i5,i6,n7,l8,i9,i10 =>
   br (decide (i10<i9)) (
    gd ((decide ((0≤i10)∧(i10<(n1:Int))))&&(okAt [(CK.int .i64),(CK.int .i64),CK.lst] l2 (((Int.toNat i10) * 3)+0))) (
    let i11:=(iAt l2 (((Int.toNat i10) * 3)+0))
    let i12:=(iAt l2 ((((Int.toNat i10) * 3)+0)+1))
    let n13:=(nAt l2 (((((Int.toNat i10) * 3)+0)+1)+1))
    let l14:=(lAt l2 (((((Int.toNat i10) * 3)+0)+1)+1))
    br (i11 != i5) (
     f56.l0 n m n1 l2 n3 l4 i5 i6 n7 l8 i9 (IntKind.i64.wrap (i10+(1:Int)))) (
     bd (f56.l1 n n n1 l2 n3 l4 i5 i6 n7 l8 i11 i12 n13 l14 i9 i10 (n13:Int) (0:Int)) fun r15 =>
     let n16:=r15.1
     let l17:=r15.2.1
     let n18:=r15.2.2.1
     let l19:=r15.2.2.2.1
     let i20:=r15.2.2.2.2.1
     let i21:=r15.2.2.2.2.2.1
     let n22:=r15.2.2.2.2.2.2.1
     let l23:=r15.2.2.2.2.2.2.2.1
     let i24:=r15.2.2.2.2.2.2.2.2.1
     let i25:=r15.2.2.2.2.2.2.2.2.2
     f56.l0 n m n16 l17 n18 l19 i20 i21 n22 l23 i24 (IntKind.i64.wrap (i25+(1:Int)))))) (
    some (n7,l8))
def f56:Nat→Nat→List T→Nat→List T→Int→Int→Option (Nat × List T)
 | 0,_,_,_,_,_,_=>none
 | n+1,n1,l2,n3,l4,i5,i6 =>
   gd (decide ((0≤i6)∧(i6≤(2147483648:Int)))) (
   let n7:=(Int.toNat i6)
   let l8:=(reps (Int.toNat i6) [(T.flt .f32 0)])
   bd (f56.l0 n n n1 l2 n3 l4 i5 i6 n7 l8 (n1:Int) (0:Int)) fun r9 =>
   let n10:=r9.1
   let l11:=r9.2
   some (n10,l11))
def sg_llii:Sig (Nat × List T × Nat × List T × Int × Int) where
 pk:=fun v=>[.lst v.1 v.2.1,.lst v.2.2.1 v.2.2.2.1,.int v.2.2.2.2.1,.int v.2.2.2.2.2]
 up:=fun ls=>match ls with
  | [.lst a0 a1,.lst a2 a3,.int a4,.int a5]=>some (a0,a1,a2,a3,a4,a5)
  | _=>none
 ok:=by intro _ _ h;split at h <;>cases h;rfl
def sg_lliiliiliiii:Sig (Nat × List T × Nat × List T × Int × Int × Nat × List T × Int × Int × Nat × List T × Int × Int × Int × Int) where
 pk:=fun v=>[.lst v.1 v.2.1,.lst v.2.2.1 v.2.2.2.1,.int v.2.2.2.2.1,.int v.2.2.2.2.2.1,.lst v.2.2.2.2.2.2.1 v.2.2.2.2.2.2.2.1,.int v.2.2.2.2.2.2.2.2.1,.int v.2.2.2.2.2.2.2.2.2.1,.lst v.2.2.2.2.2.2.2.2.2.2.1 v.2.2.2.2.2.2.2.2.2.2.2.1,.int v.2.2.2.2.2.2.2.2.2.2.2.2.1,.int v.2.2.2.2.2.2.2.2.2.2.2.2.2.1,.int v.2.2.2.2.2.2.2.2.2.2.2.2.2.2.1,.int v.2.2.2.2.2.2.2.2.2.2.2.2.2.2.2]
 up:=fun ls=>match ls with
  | [.lst a0 a1,.lst a2 a3,.int a4,.int a5,.lst a6 a7,.int a8,.int a9,.lst a10 a11,.int a12,.int a13,.int a14,.int a15]=>some (a0,a1,a2,a3,a4,a5,a6,a7,a8,a9,a10,a11,a12,a13,a14,a15)
  | _=>none
 ok:=by intro _ _ h;split at h <;>cases h;rfl
def sg_lliilii:Sig (Nat × List T × Nat × List T × Int × Int × Nat × List T × Int × Int) where
 pk:=fun v=>[.lst v.1 v.2.1,.lst v.2.2.1 v.2.2.2.1,.int v.2.2.2.2.1,.int v.2.2.2.2.2.1,.lst v.2.2.2.2.2.2.1 v.2.2.2.2.2.2.2.1,.int v.2.2.2.2.2.2.2.2.1,.int v.2.2.2.2.2.2.2.2.2]
 up:=fun ls=>match ls with
  | [.lst a0 a1,.lst a2 a3,.int a4,.int a5,.lst a6 a7,.int a8,.int a9]=>some (a0,a1,a2,a3,a4,a5,a6,a7,a8,a9)
  | _=>none
 ok:=by intro _ _ h;split at h <;>cases h;rfl
def f56.l1.P:AS:=⟨[(0,qS31),(1,qS42),(2,qS42),(7,qS41),(9,.box [.leaf,.leaf,.sl .shr [.leaf]] [.int .i64 0,.int .i64 0,.lst 0 []] [] 0),(18,qS42),(19,qS42),(35,qS42),(36,qS42)],0⟩
def f56.l1.A:Alt (Nat × List T × Nat × List T × Int × Int × Nat × List T × Int × Int):=.one (.exit 2) ⟨[(0,qS31),(1,qS42),(2,qS42),(7,qS41),(18,qS42),(19,qS42),(59,.dead),(60,.dead)],0⟩ sg_lliilii
def f56.l1.F (n m:Nat) (v:Nat × List T × Nat × List T × Int × Int × Nat × List T × Int × Int × Nat × List T × Int × Int × Int × Int):=f56.l1 n m v.1 v.2.1 v.2.2.1 v.2.2.2.1 v.2.2.2.2.1 v.2.2.2.2.2.1 v.2.2.2.2.2.2.1 v.2.2.2.2.2.2.2.1 v.2.2.2.2.2.2.2.2.1 v.2.2.2.2.2.2.2.2.2.1 v.2.2.2.2.2.2.2.2.2.2.1 v.2.2.2.2.2.2.2.2.2.2.2.1 v.2.2.2.2.2.2.2.2.2.2.2.2.1 v.2.2.2.2.2.2.2.2.2.2.2.2.2.1 v.2.2.2.2.2.2.2.2.2.2.2.2.2.2.1 v.2.2.2.2.2.2.2.2.2.2.2.2.2.2.2
def f56.l1.W (n:Nat):LpW:=.of 128 f56.l1.P sg_lliiliiliiii f56.l1.A (f56.l1.F n n)
def f56.l0.P:AS:=⟨[(0,qS31),(1,qS42),(2,qS42),(7,qS41),(18,qS42),(19,qS42)],0⟩
def f56.l0.A:Alt (Nat × List T):=.one (.exit 0) ⟨[(7,qS41)],0⟩ sg_l
def f56.l0.F (n m:Nat) (v:Nat × List T × Nat × List T × Int × Int × Nat × List T × Int × Int):=f56.l0 n m v.1 v.2.1 v.2.2.1 v.2.2.2.1 v.2.2.2.2.1 v.2.2.2.2.2.1 v.2.2.2.2.2.2.1 v.2.2.2.2.2.2.2.1 v.2.2.2.2.2.2.2.2.1 v.2.2.2.2.2.2.2.2.2
def f56.l0.W (n:Nat):LpW:=.of 48 f56.l0.P sg_lliilii f56.l0.A (f56.l0.F n n)
def f56.P:List Arg:=[⟨.val,⟨false,[.rf .shr [.sl .shr [.leaf,.leaf,.sl .shr [.leaf]],.sl .shr [.sl .shr [.leaf,.leaf,.sl .shr [.leaf]],.leaf,.leaf,.leaf,.leaf]]],[.ref [.lst 0 [],.lst 0 []]]⟩⟩,qA19,qA19]
def f56.A:RAlt (Nat × List T):=.one ⟨[qV13],[none,none,none]⟩ sg_l
def f56.F (n:Nat) (v:Nat × List T × Nat × List T × Int × Int):=f56 n v.1 v.2.1 v.2.2.1 v.2.2.2.1 v.2.2.2.2.1 v.2.2.2.2.2
def f56.O (n:Nat):Orc:=orcOf (E:=E) [] [f56.l1.W n,f56.l0.W n] n
theorem f56.l1.ok:∀ n,LpS 56 c56 1 n (f56.O n):=lpS f56.l1.P sg_lliiliiliiii f56.l1.A f56.l1.F
theorem f56.l0.ok:∀ n,LpS 56 c56 0 n (f56.O n):=lpS f56.l0.P sg_lliilii f56.l0.A f56.l0.F [loopAt c56 1] (fun n=>(.cons (f56.l1.ok n) .nil))
theorem f56.ok:FnS 56 f56.P sg_llii f56.A f56.F:=fnS c56 f56.O [loopAt c56 0] (fun n=>(.cons (f56.l0.ok n) .nil))
def f56.w:FnW E:=fnW 56 f56.P sg_llii f56.A f56.F f56.ok
def f40:Nat→Nat→List T→Option (Nat × List T)
 | 0,_,_=>none
 | n+1,n1,l2 =>
   gd (Nat.ble (0+n1) 2147483648) (
   some ((0+n1),((reps 0 [(T.flt .f32 0)])++l2)))
def f40.P:List Arg:=[qA18]
def f40.A:RAlt (Nat × List T):=.one ⟨[qV13],[none]⟩ sg_l
def f40.F (n:Nat) (v:Nat × List T):=f40 n v.1 v.2
def f40.O (n:Nat):Orc:=orcOf (E:=E) [] [] n
theorem f40.ok:FnS 40 f40.P sg_l f40.A f40.F:=fnS c40 f40.O
def f40.w:FnW E:=fnW 40 f40.P sg_l f40.A f40.F f40.ok
def f117.l0 (n:Nat):Nat→Nat→List T→Nat→Nat→List T→Int→Option (Nat × List T)
 | 0,_,_,_,_,_,_=>none
 | m+1,n1,l2,x3,n4,l5,i6 =>
   br (decide (i6<(n1:Int))) (
    gd ((decide ((0≤i6)∧(i6<(n1:Int))))&&(okAt [(CK.flt .f32)] l2 (Int.toNat i6))) (
    gd (Nat.ble (n4+1) 2147483648) (
    let n7:=(n4+1)
    let l8:=(l5++(setN (reps 1 [(T.flt .f32 0)]) 0 [(T.flt .f32 (fmul .f32 (fAt l2 (Int.toNat i6)) x3))]))
    f117.l0 n m n1 l2 x3 n7 l8 (IntKind.i64.wrap (i6+(1:Int)))))) (
    some (n4,l5))
def f117:Nat→Nat→List T→Nat→Option (Nat × List T)
 | 0,_,_,_=>none
 | n+1,n1,l2,x3 =>
   bd (f117.l0 n n n1 l2 x3 0 (reps 0 [(T.flt .f32 0)]) (0:Int)) fun r4 =>
   let n5:=r4.1
   let l6:=r4.2
   some (n5,l6)
def sg_lf:Sig (Nat × List T × Nat) where
 pk:=fun v=>[.lst v.1 v.2.1,.flt v.2.2]
 up:=fun ls=>match ls with
  | [.lst a0 a1,.flt a2]=>some (a0,a1,a2)
  | _=>none
 ok:=by intro _ _ h;split at h <;>cases h;rfl
def sg_lfli:Sig (Nat × List T × Nat × Nat × List T × Int) where
 pk:=fun v=>[.lst v.1 v.2.1,.flt v.2.2.1,.lst v.2.2.2.1 v.2.2.2.2.1,.int v.2.2.2.2.2]
 up:=fun ls=>match ls with
  | [.lst a0 a1,.flt a2,.lst a3 a4,.int a5]=>some (a0,a1,a2,a3,a4,a5)
  | _=>none
 ok:=by intro _ _ h;split at h <;>cases h;rfl
def f117.l0.P:AS:=⟨[(0,qS40),(1,qS44),(5,qS41),(6,qS42)],0⟩
def f117.l0.A:Alt (Nat × List T):=.one (.exit 0) ⟨[(5,qS41)],0⟩ sg_l
def f117.l0.F (n m:Nat) (v:Nat × List T × Nat × Nat × List T × Int):=f117.l0 n m v.1 v.2.1 v.2.2.1 v.2.2.2.1 v.2.2.2.2.1 v.2.2.2.2.2
def f117.l0.W (n:Nat):LpW:=.of 48 f117.l0.P sg_lfli f117.l0.A (f117.l0.F n n)
def f117.P:List Arg:=[qA18,qA20]
def f117.A:RAlt (Nat × List T):=.one ⟨[qV13],[none,none]⟩ sg_l
def f117.F (n:Nat) (v:Nat × List T × Nat):=f117 n v.1 v.2.1 v.2.2
def f117.O (n:Nat):Orc:=orcOf (E:=E) [] [f117.l0.W n] n
theorem f117.l0.ok:∀ n,LpS 117 c117 0 n (f117.O n):=lpS f117.l0.P sg_lfli f117.l0.A f117.l0.F
theorem f117.ok:FnS 117 f117.P sg_lf f117.A f117.F:=fnS c117 f117.O [loopAt c117 0] (fun n=>(.cons (f117.l0.ok n) .nil))
def f117.w:FnW E:=fnW 117 f117.P sg_lf f117.A f117.F f117.ok
def f105:Nat→Nat→Option (Int)
 | 0,_=>none
 | n+1,x1 =>
   br (fne .f32 x1 x1) (
    some (2143289344:Int)) (
    bd (xF32bits n x1) fun r2 =>
    let i3:=r2
    some (IntKind.i64.wrap i3))
def f105.P:List Arg:=[qA20]
def f105.A:RAlt (Int):=.one ⟨[qV14],[none]⟩ sg_i
def f105.F (n:Nat) (v:Nat):=f105 n v
def f105.O (n:Nat):Orc:=orcOf (E:=E) [x145.w] [] n
theorem f105.ok:FnS 105 f105.P sg_f f105.A f105.F:=fnS c105 f105.O
def f105.w:FnW E:=fnW 105 f105.P sg_f f105.A f105.F f105.ok
def f127:Nat→Int→Option (Nat)
 | 0,_=>none
 | n+1,i1 =>
   bd (xF32frombits n (IntKind.u32.wrap i1)) fun r2 =>
   let x3:=r2
   some x3
def f127.P:List Arg:=[qA19]
def f127.A:RAlt (Nat):=.one ⟨[qV16],[none]⟩ sg_f
def f127.F (n:Nat) (v:Int):=f127 n v
def f127.O (n:Nat):Orc:=orcOf (E:=E) [x159.w] [] n
theorem f127.ok:FnS 127 f127.P sg_i f127.A f127.F:=fnS c127 f127.O
def f127.w:FnW E:=fnW 127 f127.P sg_i f127.A f127.F f127.ok
def f119:Nat→Nat→Option (Nat)
 | 0,_=>none
 | n+1,x1 =>
   bd (f105 n x1) fun r2 =>
   let i3:=r2
   br ((intBits BinOp.and .i64 i3 (2139095040:Int))==(0:Int)) (
    bd (f127 n (intBits BinOp.and .i64 i3 (2147483648:Int))) fun r4 =>
    let x5:=r4
    some x5) (
    some x1)
def f119.P:List Arg:=[qA20]
def f119.A:RAlt (Nat):=.one ⟨[qV16],[none]⟩ sg_f
def f119.F (n:Nat) (v:Nat):=f119 n v
def f119.O (n:Nat):Orc:=orcOf (E:=E) [f105.w,f127.w] [] n
theorem f119.ok:FnS 119 f119.P sg_f f119.A f119.F:=fnS c119 f119.O
def f119.w:FnW E:=fnW 119 f119.P sg_f f119.A f119.F f119.ok
def f172:Nat→Nat→Bool→Option (Nat)
 | 0,_,_=>none
 | n+1,x1,b2 =>
   br b2 (
    bd (f119 n x1) fun r3 =>
    let x4:=r3
    some x4) (
    some x1)
def sg_fb:Sig (Nat × Bool) where
 pk:=fun v=>[.flt v.1,.bool v.2]
 up:=fun ls=>match ls with
  | [.flt a0,.bool a1]=>some (a0,a1)
  | _=>none
 ok:=by intro _ _ h;split at h <;>cases h;rfl
def f172.P:List Arg:=[qA20,qA21]
def f172.A:RAlt (Nat):=.one ⟨[qV16],[none,none]⟩ sg_f
def f172.F (n:Nat) (v:Nat × Bool):=f172 n v.1 v.2
def f172.O (n:Nat):Orc:=orcOf (E:=E) [f119.w] [] n
theorem f172.ok:FnS 172 f172.P sg_fb f172.A f172.F:=fnS c172 f172.O
def f172.w:FnW E:=fnW 172 f172.P sg_fb f172.A f172.F f172.ok
def f152:Nat→Nat→Nat→Nat→Nat→Nat→Int→Bool→Nat→Nat→Nat→Nat→Nat→Option (Nat × Nat × Nat × Nat × Nat)
 | 0,_,_,_,_,_,_,_,_,_,_,_,_=>none
 | n+1,x1,x2,x3,x4,x5,i6,b7,x8,x9,x10,x11,x12 =>
   br (i6==(0:Int)) (
    let x13:=(fadd .f32 (fmul .f32 x1 x12) (fmul .f32 x2 x8))
    let x14:=(fadd .f32 x13 (fmul .f32 x3 x9))
    let x15:=(fsub .f32 x14 (fmul .f32 x4 x10))
    let x16:=(fsub .f32 x15 (fmul .f32 x5 x11))
    bd (f172 n x16 b7) fun r17 =>
    let x18:=r17
    br b7 (
     bd (f119 n x12) fun r19 =>
     let x20:=r19
     bd (f119 n x8) fun r21 =>
     let x22:=r21
     bd (f119 n x18) fun r23 =>
     let x24:=r23
     bd (f119 n x10) fun r25 =>
     let x26:=r25
     some (x18,x20,x22,x24,x26)) (
     some (x18,x12,x8,x18,x10))) (
    br (i6==(1:Int)) (
     bd (f172 n (fadd .f32 (fmul .f32 x1 x12) x8) b7) fun r27 =>
     let x28:=r27
     let x29:=(fsub .f32 (fmul .f32 x2 x12) (fmul .f32 x4 x28))
     let x30:=(fadd .f32 x29 x9)
     let x31:=(fsub .f32 (fmul .f32 x3 x12) (fmul .f32 x5 x28))
     br b7 (
      bd (f119 n x30) fun r32 =>
      let x33:=r32
      bd (f119 n x31) fun r34 =>
      let x35:=r34
      bd (f119 n 0) fun r36 =>
      let x37:=r36
      bd (f119 n 0) fun r38 =>
      let x39:=r38
      some (x28,x33,x35,x37,x39)) (
      some (x28,x30,x31,0,0))) (
     let x40:=(fsub .f32 x12 (fmul .f32 x4 x8))
     bd (f172 n (fsub .f32 x40 (fmul .f32 x5 x9)) b7) fun r41 =>
     let x42:=r41
     let x43:=(fadd .f32 (fmul .f32 x1 x42) (fmul .f32 x2 x8))
     bd (f172 n (fadd .f32 x43 (fmul .f32 x3 x9)) b7) fun r44 =>
     let x45:=r44
     br b7 (
      bd (f119 n x42) fun r46 =>
      let x47:=r46
      bd (f119 n x8) fun r48 =>
      let x49:=r48
      bd (f119 n 0) fun r50 =>
      let x51:=r50
      bd (f119 n 0) fun r52 =>
      let x53:=r52
      some (x45,x47,x49,x51,x53)) (
      some (x45,x42,x8,0,0))))
def sg_fffffibfffff:Sig (Nat × Nat × Nat × Nat × Nat × Int × Bool × Nat × Nat × Nat × Nat × Nat) where
 pk:=fun v=>[.flt v.1,.flt v.2.1,.flt v.2.2.1,.flt v.2.2.2.1,.flt v.2.2.2.2.1,.int v.2.2.2.2.2.1,.bool v.2.2.2.2.2.2.1,.flt v.2.2.2.2.2.2.2.1,.flt v.2.2.2.2.2.2.2.2.1,.flt v.2.2.2.2.2.2.2.2.2.1,.flt v.2.2.2.2.2.2.2.2.2.2.1,.flt v.2.2.2.2.2.2.2.2.2.2.2]
 up:=fun ls=>match ls with
  | [.flt a0,.flt a1,.flt a2,.flt a3,.flt a4,.int a5,.bool a6,.flt a7,.flt a8,.flt a9,.flt a10,.flt a11]=>some (a0,a1,a2,a3,a4,a5,a6,a7,a8,a9,a10,a11)
  | _=>none
 ok:=by intro _ _ h;split at h <;>cases h;rfl
def sg_fffff:Sig (Nat × Nat × Nat × Nat × Nat) where
 pk:=fun v=>[.flt v.1,.flt v.2.1,.flt v.2.2.1,.flt v.2.2.2.1,.flt v.2.2.2.2]
 up:=fun ls=>match ls with
  | [.flt a0,.flt a1,.flt a2,.flt a3,.flt a4]=>some (a0,a1,a2,a3,a4)
  | _=>none
 ok:=by intro _ _ h;split at h <;>cases h;rfl
def f152.P:List Arg:=[⟨.val,⟨false,[.rf .shr [.leaf,.leaf,.leaf,.leaf,.leaf]],[.ref [.flt .f32 0,.flt .f32 0,.flt .f32 0,.flt .f32 0,.flt .f32 0]]⟩⟩,qA19,qA21,qA29,qA20]
def f152.A:RAlt (Nat × Nat × Nat × Nat × Nat):=.one ⟨[qV16,qV6],[none,none,none,none,none]⟩ sg_fffff
def f152.F (n:Nat) (v:Nat × Nat × Nat × Nat × Nat × Int × Bool × Nat × Nat × Nat × Nat × Nat):=f152 n v.1 v.2.1 v.2.2.1 v.2.2.2.1 v.2.2.2.2.1 v.2.2.2.2.2.1 v.2.2.2.2.2.2.1 v.2.2.2.2.2.2.2.1 v.2.2.2.2.2.2.2.2.1 v.2.2.2.2.2.2.2.2.2.1 v.2.2.2.2.2.2.2.2.2.2.1 v.2.2.2.2.2.2.2.2.2.2.2
def f152.O (n:Nat):Orc:=orcOf (E:=E) [f119.w,f172.w] [] n
theorem f152.ok:FnS 152 f152.P sg_fffffibfffff f152.A f152.F:=fnS c152 f152.O
def f152.w:FnW E:=fnW 152 f152.P sg_fffffibfffff f152.A f152.F f152.ok
def f118.l0 (n:Nat):Nat→Nat→Nat→Nat→Nat→Nat→Int→Bool→Nat→List T→Nat→Nat→Nat→Nat→Nat→Nat→Nat→Nat→Nat→List T→Int→Option (Nat × Nat × Nat × Nat × Nat × Nat × Nat × Nat × Nat × List T)
 | 0,_,_,_,_,_,_,_,_,_,_,_,_,_,_,_,_,_,_,_,_=>none
 | m+1,x1,x2,x3,x4,x5,i6,b7,n8,l9,x10,x11,x12,x13,x14,x15,x16,x17,n18,l19,i20 =>
   br (decide (i20<(n8:Int))) (
    gd ((decide ((0≤i20)∧(i20<(n8:Int))))&&(okAt [(CK.flt .f32)] l9 (Int.toNat i20))) (
    bd (f152 n x1 x2 x3 x4 x5 i6 b7 x10 x11 x12 x13 (fAt l9 (Int.toNat i20))) fun r21 =>
    let x22:=r21.1
    let x23:=r21.2.1
    let x24:=r21.2.2.1
    let x25:=r21.2.2.2.1
    let x26:=r21.2.2.2.2
    gd (Nat.ble (n18+1) 2147483648) (
    let n27:=(n18+1)
    let l28:=(l19++(setN (reps 1 [(T.flt .f32 0)]) 0 [(T.flt .f32 x22)]))
    f118.l0 n m x1 x2 x3 x4 x5 i6 b7 n8 l9 x23 x24 x25 x26 x14 x15 x16 x17 n27 l28 (IntKind.i64.wrap (i20+(1:Int)))))) (
    some (x10,x11,x12,x13,x14,x15,x16,x17,n18,l19))
termination_by structural x=>x
def f118:Nat→Nat→Nat→Nat→Nat→Nat→Int→Bool→Nat→Nat→Nat→Nat→Nat→List T→Option (Nat × List T × Nat × Nat × Nat × Nat)
 | 0,_,_,_,_,_,_,_,_,_,_,_,_,_=>none
 | n+1,x1,x2,x3,x4,x5,i6,b7,x8,x9,x10,x11,n12,l13 =>
   bd (f118.l0 n n x1 x2 x3 x4 x5 i6 b7 n12 l13 x8 x9 x10 x11 0 0 0 0 0 (reps 0 [(T.flt .f32 0)]) (0:Int)) fun r14 =>
   let x15:=r14.1
   let x16:=r14.2.1
   let x17:=r14.2.2.1
   let x18:=r14.2.2.2.1
   let n23:=r14.2.2.2.2.2.2.2.2.1
   let l24:=r14.2.2.2.2.2.2.2.2.2
   some (n23,l24,x15,x16,x17,x18)
def sg_fffffibffffl:Sig (Nat × Nat × Nat × Nat × Nat × Int × Bool × Nat × Nat × Nat × Nat × Nat × List T) where
 pk:=fun v=>[.flt v.1,.flt v.2.1,.flt v.2.2.1,.flt v.2.2.2.1,.flt v.2.2.2.2.1,.int v.2.2.2.2.2.1,.bool v.2.2.2.2.2.2.1,.flt v.2.2.2.2.2.2.2.1,.flt v.2.2.2.2.2.2.2.2.1,.flt v.2.2.2.2.2.2.2.2.2.1,.flt v.2.2.2.2.2.2.2.2.2.2.1,.lst v.2.2.2.2.2.2.2.2.2.2.2.1 v.2.2.2.2.2.2.2.2.2.2.2.2]
 up:=fun ls=>match ls with
  | [.flt a0,.flt a1,.flt a2,.flt a3,.flt a4,.int a5,.bool a6,.flt a7,.flt a8,.flt a9,.flt a10,.lst a11 a12]=>some (a0,a1,a2,a3,a4,a5,a6,a7,a8,a9,a10,a11,a12)
  | _=>none
 ok:=by intro _ _ h;split at h <;>cases h;rfl
def sg_lffff:Sig (Nat × List T × Nat × Nat × Nat × Nat) where
 pk:=fun v=>[.lst v.1 v.2.1,.flt v.2.2.1,.flt v.2.2.2.1,.flt v.2.2.2.2.1,.flt v.2.2.2.2.2]
 up:=fun ls=>match ls with
  | [.lst a0 a1,.flt a2,.flt a3,.flt a4,.flt a5]=>some (a0,a1,a2,a3,a4,a5)
  | _=>none
 ok:=by intro _ _ h;split at h <;>cases h;rfl
def sg_fffffiblffffffffli:Sig (Nat × Nat × Nat × Nat × Nat × Int × Bool × Nat × List T × Nat × Nat × Nat × Nat × Nat × Nat × Nat × Nat × Nat × List T × Int) where
 pk:=fun v=>[.flt v.1,.flt v.2.1,.flt v.2.2.1,.flt v.2.2.2.1,.flt v.2.2.2.2.1,.int v.2.2.2.2.2.1,.bool v.2.2.2.2.2.2.1,.lst v.2.2.2.2.2.2.2.1 v.2.2.2.2.2.2.2.2.1,.flt v.2.2.2.2.2.2.2.2.2.1,.flt v.2.2.2.2.2.2.2.2.2.2.1,.flt v.2.2.2.2.2.2.2.2.2.2.2.1,.flt v.2.2.2.2.2.2.2.2.2.2.2.2.1,.flt v.2.2.2.2.2.2.2.2.2.2.2.2.2.1,.flt v.2.2.2.2.2.2.2.2.2.2.2.2.2.2.1,.flt v.2.2.2.2.2.2.2.2.2.2.2.2.2.2.2.1,.flt v.2.2.2.2.2.2.2.2.2.2.2.2.2.2.2.2.1,.lst v.2.2.2.2.2.2.2.2.2.2.2.2.2.2.2.2.2.1 v.2.2.2.2.2.2.2.2.2.2.2.2.2.2.2.2.2.2.1,.int v.2.2.2.2.2.2.2.2.2.2.2.2.2.2.2.2.2.2.2]
 up:=fun ls=>match ls with
  | [.flt a0,.flt a1,.flt a2,.flt a3,.flt a4,.int a5,.bool a6,.lst a7 a8,.flt a9,.flt a10,.flt a11,.flt a12,.flt a13,.flt a14,.flt a15,.flt a16,.lst a17 a18,.int a19]=>some (a0,a1,a2,a3,a4,a5,a6,a7,a8,a9,a10,a11,a12,a13,a14,a15,a16,a17,a18,a19)
  | _=>none
 ok:=by intro _ _ h;split at h <;>cases h;rfl
def sg_ffffffffl:Sig (Nat × Nat × Nat × Nat × Nat × Nat × Nat × Nat × Nat × List T) where
 pk:=fun v=>[.flt v.1,.flt v.2.1,.flt v.2.2.1,.flt v.2.2.2.1,.flt v.2.2.2.2.1,.flt v.2.2.2.2.2.1,.flt v.2.2.2.2.2.2.1,.flt v.2.2.2.2.2.2.2.1,.lst v.2.2.2.2.2.2.2.2.1 v.2.2.2.2.2.2.2.2.2]
 up:=fun ls=>match ls with
  | [.flt a0,.flt a1,.flt a2,.flt a3,.flt a4,.flt a5,.flt a6,.flt a7,.lst a8 a9]=>some (a0,a1,a2,a3,a4,a5,a6,a7,a8,a9)
  | _=>none
 ok:=by intro _ _ h;split at h <;>cases h;rfl
def f118.l0.P:AS:=⟨[(0,.val false [.rf .shr [.leaf,.leaf,.leaf,.leaf,.leaf]] [.ref [.flt .f32 0,.flt .f32 0,.flt .f32 0,.flt .f32 0,.flt .f32 0]] [] 0),(1,qS42),(2,qS43),(4,qS40),(8,.box [.leaf,.leaf,.leaf,.leaf] [.flt .f32 0,.flt .f32 0,.flt .f32 0,.flt .f32 0] [] 0),(11,.box [.leaf,.leaf,.leaf,.leaf] [.flt .f32 0,.flt .f32 0,.flt .f32 0,.flt .f32 0] [] 0),(12,qS41),(13,qS42)],0⟩
def f118.l0.A:Alt (Nat × Nat × Nat × Nat × Nat × Nat × Nat × Nat × Nat × List T):=.one (.exit 0) ⟨[(8,.box [.leaf,.leaf,.leaf,.leaf] [.flt .f32 0,.flt .f32 0,.flt .f32 0,.flt .f32 0] [] 0),(11,.box [.leaf,.leaf,.leaf,.leaf] [.flt .f32 0,.flt .f32 0,.flt .f32 0,.flt .f32 0] [] 0),(12,qS41)],0⟩ sg_ffffffffl
def f118.l0.F (n m:Nat) (v:Nat × Nat × Nat × Nat × Nat × Int × Bool × Nat × List T × Nat × Nat × Nat × Nat × Nat × Nat × Nat × Nat × Nat × List T × Int):=f118.l0 n m v.1 v.2.1 v.2.2.1 v.2.2.2.1 v.2.2.2.2.1 v.2.2.2.2.2.1 v.2.2.2.2.2.2.1 v.2.2.2.2.2.2.2.1 v.2.2.2.2.2.2.2.2.1 v.2.2.2.2.2.2.2.2.2.1 v.2.2.2.2.2.2.2.2.2.2.1 v.2.2.2.2.2.2.2.2.2.2.2.1 v.2.2.2.2.2.2.2.2.2.2.2.2.1 v.2.2.2.2.2.2.2.2.2.2.2.2.2.1 v.2.2.2.2.2.2.2.2.2.2.2.2.2.2.1 v.2.2.2.2.2.2.2.2.2.2.2.2.2.2.2.1 v.2.2.2.2.2.2.2.2.2.2.2.2.2.2.2.2.1 v.2.2.2.2.2.2.2.2.2.2.2.2.2.2.2.2.2.1 v.2.2.2.2.2.2.2.2.2.2.2.2.2.2.2.2.2.2.1 v.2.2.2.2.2.2.2.2.2.2.2.2.2.2.2.2.2.2.2
def f118.l0.W (n:Nat):LpW:=.of 48 f118.l0.P sg_fffffiblffffffffli f118.l0.A (f118.l0.F n n)
def f118.P:List Arg:=[⟨.val,⟨false,[.rf .shr [.leaf,.leaf,.leaf,.leaf,.leaf]],[.ref [.flt .f32 0,.flt .f32 0,.flt .f32 0,.flt .f32 0,.flt .f32 0]]⟩⟩,qA19,qA21,qA29,qA18]
def f118.A:RAlt (Nat × List T × Nat × Nat × Nat × Nat):=.one ⟨[qV13,qV6],[none,none,none,none,none]⟩ sg_lffff
def f118.F (n:Nat) (v:Nat × Nat × Nat × Nat × Nat × Int × Bool × Nat × Nat × Nat × Nat × Nat × List T):=f118 n v.1 v.2.1 v.2.2.1 v.2.2.2.1 v.2.2.2.2.1 v.2.2.2.2.2.1 v.2.2.2.2.2.2.1 v.2.2.2.2.2.2.2.1 v.2.2.2.2.2.2.2.2.1 v.2.2.2.2.2.2.2.2.2.1 v.2.2.2.2.2.2.2.2.2.2.1 v.2.2.2.2.2.2.2.2.2.2.2.1 v.2.2.2.2.2.2.2.2.2.2.2.2
def f118.O (n:Nat):Orc:=orcOf (E:=E) [f152.w] [f118.l0.W n] n
theorem f118.l0.ok:∀ n,LpS 118 c118 0 n (f118.O n):=lpS f118.l0.P sg_fffffiblffffffffli f118.l0.A f118.l0.F
theorem f118.ok:FnS 118 f118.P sg_fffffibffffl f118.A f118.F:=fnS c118 f118.O [loopAt c118 0] (fun n=>(.cons (f118.l0.ok n) .nil))
def f118.w:FnW E:=fnW 118 f118.P sg_fffffibffffl f118.A f118.F f118.ok
def f94.l0 (n:Nat):Nat→Nat→List T→Nat→List T→Nat→List T→Nat→List T→Int→Option (Nat × List T × Nat × List T)
 | 0,_,_,_,_,_,_,_,_,_=>none
 | m+1,n1,l2,n3,l4,n5,l6,n7,l8,i9 =>
   br (decide (i9<(n1:Int))) (
    gd (decide ((0≤(0:Int))∧((0:Int)<(n5:Int)))) (
    gd (okAt [(CK.flt .f32)] l6 0) (
    let x10:=(fAt l6 0)
    gd ((decide ((0≤i9)∧(i9<(n1:Int))))&&(okAt [(CK.flt .f32)] l2 (Int.toNat i9))) (
    gd ((decide ((0≤(1:Int))∧((1:Int)<(n3:Int))))&&(okAt [(CK.flt .f32)] l4 1)) (
    gd (Nat.ble (n7+1) 2147483648) (
    let n11:=(n7+1)
    let l12:=(l8++(setN (reps 1 [(T.flt .f32 0)]) 0 [(T.flt .f32 (fadd .f32 (fAt l2 (Int.toNat i9)) (fmul .f32 (fAt l4 1) x10)))]))
    gd (decide ((0≤(1:Int))∧(((1:Int)≤(n5:Int))∧((n5:Int)≤(n5:Int))))) (
    gd (Nat.ble (0+(n5 - 1)) 2147483648) (
    gd ((decide ((0≤i9)∧(i9<(n1:Int))))&&(okAt [(CK.flt .f32)] l2 (Int.toNat i9))) (
    gd ((decide ((0≤(0:Int))∧((0:Int)<(n3:Int))))&&(okAt [(CK.flt .f32)] l4 0)) (
    bd (f119 n (fadd .f32 (fAt l2 (Int.toNat i9)) (fmul .f32 (fAt l4 0) x10))) fun r13 =>
    let x14:=r13
    gd (Nat.ble ((0+(n5 - 1))+1) 2147483648) (
    let n15:=((0+(n5 - 1))+1)
    let l16:=(((reps 0 [(T.flt .f32 0)])++(List.take (n5 - 1) (List.drop 1 l6)))++(setN (reps 1 [(T.flt .f32 0)]) 0 [(T.flt .f32 x14)]))
    f94.l0 n m n1 l2 n3 l4 n15 l16 n11 l12 (IntKind.i64.wrap (i9+(1:Int)))))))))))))) (
    some (n5,l6,n7,l8))
def f156:Nat→Nat→Option (Nat)
 | 0,_=>none
 | n+1,x1 =>
   br (flt .f32 x1 0) (
    some (negF .f32 x1)) (
    bd (f105 n x1) fun r2 =>
    let i3:=r2
    br (i3==(2147483648:Int)) (
     some (negF .f32 x1)) (
     some x1))
def f156.P:List Arg:=[qA20]
def f156.A:RAlt (Nat):=.one ⟨[qV16],[none]⟩ sg_f
def f156.F (n:Nat) (v:Nat):=f156 n v
def f156.O (n:Nat):Orc:=orcOf (E:=E) [f105.w] [] n
theorem f156.ok:FnS 156 f156.P sg_f f156.A f156.F:=fnS c156 f156.O
def f156.w:FnW E:=fnW 156 f156.P sg_f f156.A f156.F f156.ok
def f153:Nat→Nat→Nat→Nat→Nat→Nat→Option (Nat)
 | 0,_,_,_,_,_=>none
 | n+1,x1,x2,x3,x4,x5 =>
   bd (f156 n x5) fun r6 =>
   let x7:=r6
   br (fgt .f32 x7 x4) (
    let x8:=(fsub .f32 x7 x4)
    bd (f119 n (fadd .f32 x4 (fmul .f32 x1 x8))) fun r9 =>
    let x10:=r9
    some x10) (
    let x11:=(fsub .f32 x7 x4)
    bd (f119 n (fadd .f32 x4 (fmul .f32 x2 x11))) fun r12 =>
    let x13:=r12
    some x13)
def f153.P:List Arg:=[⟨.val,⟨false,[.rf .shr [.leaf,.leaf,.leaf]],[.ref [.flt .f32 0,.flt .f32 0,.flt .f32 0]]⟩⟩,qA20,qA20]
def f153.A:RAlt (Nat):=.one ⟨[qV16],[none,none,none]⟩ sg_f
def f153.F (n:Nat) (v:Nat × Nat × Nat × Nat × Nat):=f153 n v.1 v.2.1 v.2.2.1 v.2.2.2.1 v.2.2.2.2
def f153.O (n:Nat):Orc:=orcOf (E:=E) [f119.w,f156.w] [] n
theorem f153.ok:FnS 153 f153.P sg_fffff f153.A f153.F:=fnS c153 f153.O
def f153.w:FnW E:=fnW 153 f153.P sg_fffff f153.A f153.F f153.ok
def f154:Nat→Nat→Nat→Nat→Option (Nat)
 | 0,_,_,_=>none
 | n+1,x1,x2,x3 =>
   br (!(fgt .f32 x1 x2)) (
    some 1065353216) (
    let x4:=(fdiv .f32 (fsub .f32 x1 x2) x3)
    some (fdiv .f32 (fadd .f32 x2 x4) x1))
def sg_fff:Sig (Nat × Nat × Nat) where
 pk:=fun v=>[.flt v.1,.flt v.2.1,.flt v.2.2]
 up:=fun ls=>match ls with
  | [.flt a0,.flt a1,.flt a2]=>some (a0,a1,a2)
  | _=>none
 ok:=by intro _ _ h;split at h <;>cases h;rfl
def f154.P:List Arg:=[qA20,qA20,qA20]
def f154.A:RAlt (Nat):=.one ⟨[qV16],[none,none,none]⟩ sg_f
def f154.F (n:Nat) (v:Nat × Nat × Nat):=f154 n v.1 v.2.1 v.2.2
def f154.O (n:Nat):Orc:=orcOf (E:=E) [] [] n
theorem f154.ok:FnS 154 f154.P sg_fff f154.A f154.F:=fnS c154 f154.O
def f154.w:FnW E:=fnW 154 f154.P sg_fff f154.A f154.F f154.ok
def f120.l0 (n:Nat):Nat→Nat→List T→Nat→List T→Nat→Nat→Nat→Nat→Nat→Nat→Nat→Nat→Nat→Nat→Nat→List T→Int→Option (Nat × Nat × Nat × Nat × Nat × Nat × Nat × Nat × Nat × Nat × Nat × List T)
 | 0,_,_,_,_,_,_,_,_,_,_,_,_,_,_,_,_,_=>none
 | m+1,n1,l2,n3,l4,x5,x6,x7,x8,x9,x10,x11,x12,x13,x14,n15,l16,i17 =>
   br (decide (i17<(n1:Int))) (
    gd ((decide ((0≤i17)∧(i17<(n3:Int))))&&(okAt [(CK.flt .f32)] l4 (Int.toNat i17))) (
    bd (f153 n x5 x6 x7 x7 (fAt l4 (Int.toNat i17))) fun r18 =>
    let x19:=r18
    gd ((decide ((0≤i17)∧(i17<(n1:Int))))&&(okAt [(CK.flt .f32)] l2 (Int.toNat i17))) (
    bd (f154 n x19 x8 x9) fun r20 =>
    let x21:=r20
    gd (Nat.ble (n15+1) 2147483648) (
    let n22:=(n15+1)
    let l23:=(l16++(setN (reps 1 [(T.flt .f32 0)]) 0 [(T.flt .f32 (fmul .f32 (fAt l2 (Int.toNat i17)) x21))]))
    f120.l0 n m n1 l2 n3 l4 x5 x6 x19 x8 x9 x10 x11 x12 x13 x14 n22 l23 (IntKind.i64.wrap (i17+(1:Int))))))) (
    some (x5,x6,x7,x8,x9,x10,x11,x12,x13,x14,n15,l16))
termination_by structural x=>x
def f120:Nat→Nat→Nat→Nat→Nat→Nat→Nat→List T→Nat→List T→Option (Nat × List T × Nat × Nat × Nat × Nat × Nat)
 | 0,_,_,_,_,_,_,_,_,_=>none
 | n+1,x1,x2,x3,x4,x5,n6,l7,n8,l9 =>
   bd (f120.l0 n n n6 l7 n8 l9 x1 x2 x3 x4 x5 0 0 0 0 0 0 (reps 0 [(T.flt .f32 0)]) (0:Int)) fun r10 =>
   let x11:=r10.1
   let x12:=r10.2.1
   let x13:=r10.2.2.1
   let x14:=r10.2.2.2.1
   let x15:=r10.2.2.2.2.1
   let n21:=r10.2.2.2.2.2.2.2.2.2.2.1
   let l22:=r10.2.2.2.2.2.2.2.2.2.2.2
   some (n21,l22,x11,x12,x13,x14,x15)
def sg_fffffll:Sig (Nat × Nat × Nat × Nat × Nat × Nat × List T × Nat × List T) where
 pk:=fun v=>[.flt v.1,.flt v.2.1,.flt v.2.2.1,.flt v.2.2.2.1,.flt v.2.2.2.2.1,.lst v.2.2.2.2.2.1 v.2.2.2.2.2.2.1,.lst v.2.2.2.2.2.2.2.1 v.2.2.2.2.2.2.2.2]
 up:=fun ls=>match ls with
  | [.flt a0,.flt a1,.flt a2,.flt a3,.flt a4,.lst a5 a6,.lst a7 a8]=>some (a0,a1,a2,a3,a4,a5,a6,a7,a8)
  | _=>none
 ok:=by intro _ _ h;split at h <;>cases h;rfl
def sg_lfffff:Sig (Nat × List T × Nat × Nat × Nat × Nat × Nat) where
 pk:=fun v=>[.lst v.1 v.2.1,.flt v.2.2.1,.flt v.2.2.2.1,.flt v.2.2.2.2.1,.flt v.2.2.2.2.2.1,.flt v.2.2.2.2.2.2]
 up:=fun ls=>match ls with
  | [.lst a0 a1,.flt a2,.flt a3,.flt a4,.flt a5,.flt a6]=>some (a0,a1,a2,a3,a4,a5,a6)
  | _=>none
 ok:=by intro _ _ h;split at h <;>cases h;rfl
def sg_llffffffffffli:Sig (Nat × List T × Nat × List T × Nat × Nat × Nat × Nat × Nat × Nat × Nat × Nat × Nat × Nat × Nat × List T × Int) where
 pk:=fun v=>[.lst v.1 v.2.1,.lst v.2.2.1 v.2.2.2.1,.flt v.2.2.2.2.1,.flt v.2.2.2.2.2.1,.flt v.2.2.2.2.2.2.1,.flt v.2.2.2.2.2.2.2.1,.flt v.2.2.2.2.2.2.2.2.1,.flt v.2.2.2.2.2.2.2.2.2.1,.flt v.2.2.2.2.2.2.2.2.2.2.1,.flt v.2.2.2.2.2.2.2.2.2.2.2.1,.flt v.2.2.2.2.2.2.2.2.2.2.2.2.1,.flt v.2.2.2.2.2.2.2.2.2.2.2.2.2.1,.lst v.2.2.2.2.2.2.2.2.2.2.2.2.2.2.1 v.2.2.2.2.2.2.2.2.2.2.2.2.2.2.2.1,.int v.2.2.2.2.2.2.2.2.2.2.2.2.2.2.2.2]
 up:=fun ls=>match ls with
  | [.lst a0 a1,.lst a2 a3,.flt a4,.flt a5,.flt a6,.flt a7,.flt a8,.flt a9,.flt a10,.flt a11,.flt a12,.flt a13,.lst a14 a15,.int a16]=>some (a0,a1,a2,a3,a4,a5,a6,a7,a8,a9,a10,a11,a12,a13,a14,a15,a16)
  | _=>none
 ok:=by intro _ _ h;split at h <;>cases h;rfl
def sg_ffffffffffl:Sig (Nat × Nat × Nat × Nat × Nat × Nat × Nat × Nat × Nat × Nat × Nat × List T) where
 pk:=fun v=>[.flt v.1,.flt v.2.1,.flt v.2.2.1,.flt v.2.2.2.1,.flt v.2.2.2.2.1,.flt v.2.2.2.2.2.1,.flt v.2.2.2.2.2.2.1,.flt v.2.2.2.2.2.2.2.1,.flt v.2.2.2.2.2.2.2.2.1,.flt v.2.2.2.2.2.2.2.2.2.1,.lst v.2.2.2.2.2.2.2.2.2.2.1 v.2.2.2.2.2.2.2.2.2.2.2]
 up:=fun ls=>match ls with
  | [.flt a0,.flt a1,.flt a2,.flt a3,.flt a4,.flt a5,.flt a6,.flt a7,.flt a8,.flt a9,.lst a10 a11]=>some (a0,a1,a2,a3,a4,a5,a6,a7,a8,a9,a10,a11)
  | _=>none
 ok:=by intro _ _ h;split at h <;>cases h;rfl
def f120.l0.P:AS:=⟨[(1,qS40),(2,qS40),(3,.box [.leaf,.leaf,.leaf,.leaf,.leaf] [.flt .f32 0,.flt .f32 0,.flt .f32 0,.flt .f32 0,.flt .f32 0] [] 0),(7,.box [.leaf,.leaf,.leaf,.leaf,.leaf] [.flt .f32 0,.flt .f32 0,.flt .f32 0,.flt .f32 0,.flt .f32 0] [] 0),(8,qS41),(9,qS42)],0⟩
def f120.l0.A:Alt (Nat × Nat × Nat × Nat × Nat × Nat × Nat × Nat × Nat × Nat × Nat × List T):=.one (.exit 0) ⟨[(3,.box [.leaf,.leaf,.leaf,.leaf,.leaf] [.flt .f32 0,.flt .f32 0,.flt .f32 0,.flt .f32 0,.flt .f32 0] [] 0),(7,.box [.leaf,.leaf,.leaf,.leaf,.leaf] [.flt .f32 0,.flt .f32 0,.flt .f32 0,.flt .f32 0,.flt .f32 0] [] 0),(8,qS41)],0⟩ sg_ffffffffffl
def f120.l0.F (n m:Nat) (v:Nat × List T × Nat × List T × Nat × Nat × Nat × Nat × Nat × Nat × Nat × Nat × Nat × Nat × Nat × List T × Int):=f120.l0 n m v.1 v.2.1 v.2.2.1 v.2.2.2.1 v.2.2.2.2.1 v.2.2.2.2.2.1 v.2.2.2.2.2.2.1 v.2.2.2.2.2.2.2.1 v.2.2.2.2.2.2.2.2.1 v.2.2.2.2.2.2.2.2.2.1 v.2.2.2.2.2.2.2.2.2.2.1 v.2.2.2.2.2.2.2.2.2.2.2.1 v.2.2.2.2.2.2.2.2.2.2.2.2.1 v.2.2.2.2.2.2.2.2.2.2.2.2.2.1 v.2.2.2.2.2.2.2.2.2.2.2.2.2.2.1 v.2.2.2.2.2.2.2.2.2.2.2.2.2.2.2.1 v.2.2.2.2.2.2.2.2.2.2.2.2.2.2.2.2
def f120.l0.W (n:Nat):LpW:=.of 48 f120.l0.P sg_llffffffffffli f120.l0.A (f120.l0.F n n)
def f120.P:List Arg:=[qA30,qA18,qA18]
def f120.A:RAlt (Nat × List T × Nat × Nat × Nat × Nat × Nat):=.one ⟨[qV13,qV3],[none,none,none]⟩ sg_lfffff
def f120.F (n:Nat) (v:Nat × Nat × Nat × Nat × Nat × Nat × List T × Nat × List T):=f120 n v.1 v.2.1 v.2.2.1 v.2.2.2.1 v.2.2.2.2.1 v.2.2.2.2.2.1 v.2.2.2.2.2.2.1 v.2.2.2.2.2.2.2.1 v.2.2.2.2.2.2.2.2
def f120.O (n:Nat):Orc:=orcOf (E:=E) [f153.w,f154.w] [f120.l0.W n] n
theorem f120.l0.ok:∀ n,LpS 120 c120 0 n (f120.O n):=lpS f120.l0.P sg_llffffffffffli f120.l0.A f120.l0.F
theorem f120.ok:FnS 120 f120.P sg_fffffll f120.A f120.F:=fnS c120 f120.O [loopAt c120 0] (fun n=>(.cons (f120.l0.ok n) .nil))
def f120.w:FnW E:=fnW 120 f120.P sg_fffffll f120.A f120.F f120.ok
def f155:Nat→Nat→Nat→Option (Nat)
 | 0,_,_=>none
 | n+1,x1,x2 =>
   bd (f156 n x1) fun r3 =>
   let x4:=r3
   br (fgt .f32 x4 x2) (
    br (flt .f32 x1 0) (
     some (negF .f32 x2)) (
     some x2)) (
    some x1)
def sg_ff:Sig (Nat × Nat) where
 pk:=fun v=>[.flt v.1,.flt v.2]
 up:=fun ls=>match ls with
  | [.flt a0,.flt a1]=>some (a0,a1)
  | _=>none
 ok:=by intro _ _ h;split at h <;>cases h;rfl
def f155.P:List Arg:=[qA20,qA20]
def f155.A:RAlt (Nat):=.one ⟨[qV16],[none,none]⟩ sg_f
def f155.F (n:Nat) (v:Nat × Nat):=f155 n v.1 v.2
def f155.O (n:Nat):Orc:=orcOf (E:=E) [f156.w] [] n
theorem f155.ok:FnS 155 f155.P sg_ff f155.A f155.F:=fnS c155 f155.O
def f155.w:FnW E:=fnW 155 f155.P sg_ff f155.A f155.F f155.ok
def f121.l0 (n:Nat):Nat→Nat→List T→Nat→Nat→List T→Int→Option (Nat × List T)
 | 0,_,_,_,_,_,_=>none
 | m+1,n1,l2,x3,n4,l5,i6 =>
   br (decide (i6<(n1:Int))) (
    gd ((decide ((0≤i6)∧(i6<(n1:Int))))&&(okAt [(CK.flt .f32)] l2 (Int.toNat i6))) (
    bd (f155 n (fAt l2 (Int.toNat i6)) x3) fun r7 =>
    let x8:=r7
    gd (Nat.ble (n4+1) 2147483648) (
    let n9:=(n4+1)
    let l10:=(l5++(setN (reps 1 [(T.flt .f32 0)]) 0 [(T.flt .f32 x8)]))
    f121.l0 n m n1 l2 x3 n9 l10 (IntKind.i64.wrap (i6+(1:Int)))))) (
    some (n4,l5))
def f121:Nat→Nat→List T→Nat→Option (Nat × List T × Bool)
 | 0,_,_,_=>none
 | n+1,n1,l2,x3 =>
   bd (f80 n n1 l2) fun r4 =>
   let b5:=r4
   br (!b5) (
    some (0,[],false)) (
    bd (f121.l0 n n n1 l2 x3 0 (reps 0 [(T.flt .f32 0)]) (0:Int)) fun r6 =>
    let n7:=r6.1
    let l8:=r6.2
    some (n7,l8,true))
def sg_lb:Sig (Nat × List T × Bool) where
 pk:=fun v=>[.lst v.1 v.2.1,.bool v.2.2]
 up:=fun ls=>match ls with
  | [.lst a0 a1,.bool a2]=>some (a0,a1,a2)
  | _=>none
 ok:=by intro _ _ h;split at h <;>cases h;rfl
def f121.l0.P:AS:=⟨[(0,qS40),(1,qS44),(6,qS41),(7,qS42)],0⟩
def f121.l0.A:Alt (Nat × List T):=.one (.exit 0) ⟨[(6,qS41)],0⟩ sg_l
def f121.l0.F (n m:Nat) (v:Nat × List T × Nat × Nat × List T × Int):=f121.l0 n m v.1 v.2.1 v.2.2.1 v.2.2.2.1 v.2.2.2.2.1 v.2.2.2.2.2
def f121.l0.W (n:Nat):LpW:=.of 80 f121.l0.P sg_lfli f121.l0.A (f121.l0.F n n)
def f121.P:List Arg:=[qA18,qA20]
def f121.A:RAlt (Nat × List T × Bool):=.one ⟨[qV13,qV15],[none,none]⟩ sg_lb
def f121.F (n:Nat) (v:Nat × List T × Nat):=f121 n v.1 v.2.1 v.2.2
def f121.O (n:Nat):Orc:=orcOf (E:=E) [f80.w,f155.w] [f121.l0.W n] n
theorem f121.l0.ok:∀ n,LpS 121 c121 0 n (f121.O n):=lpS f121.l0.P sg_lfli f121.l0.A f121.l0.F
theorem f121.ok:FnS 121 f121.P sg_lf f121.A f121.F:=fnS c121 f121.O [loopAt c121 0] (fun n=>(.cons (f121.l0.ok n) .nil))
def f121.w:FnW E:=fnW 121 f121.P sg_lf f121.A f121.F f121.ok
def f122:Nat→Nat→Option (Nat)
 | 0,_=>none
 | n+1,x1 =>
   br (fge .f32 x1 1065353216) (
    some 1065353216) (
    br (fle .f32 x1 3212836864) (
     some 3212836864) (
     let x2:=(fmul .f32 1056964608 (fmul .f32 x1 x1))
     some (fmul .f32 x1 (fsub .f32 1069547520 x2))))
def f122.P:List Arg:=[qA20]
def f122.A:RAlt (Nat):=.one ⟨[qV16],[none]⟩ sg_f
def f122.F (n:Nat) (v:Nat):=f122 n v
def f122.O (n:Nat):Orc:=orcOf (E:=E) [] [] n
theorem f122.ok:FnS 122 f122.P sg_f f122.A f122.F:=fnS c122 f122.O
def f122.w:FnW E:=fnW 122 f122.P sg_f f122.A f122.F f122.ok
def f94.l1 (n:Nat):Nat→Nat→List T→Nat→List T→Int→Option (Nat × List T)
 | 0,_,_,_,_,_=>none
 | m+1,n1,l2,n3,l4,i5 =>
   br (decide (i5<(n1:Int))) (
    gd ((decide ((0≤i5)∧(i5<(n1:Int))))&&(okAt [(CK.flt .f32)] l2 (Int.toNat i5))) (
    bd (f122 n (fAt l2 (Int.toNat i5))) fun r6 =>
    let x7:=r6
    gd (Nat.ble (n3+1) 2147483648) (
    let n8:=(n3+1)
    let l9:=(l4++(setN (reps 1 [(T.flt .f32 0)]) 0 [(T.flt .f32 x7)]))
    f94.l1 n m n1 l2 n8 l9 (IntKind.i64.wrap (i5+(1:Int)))))) (
    some (n3,l4))
def f123.l1 (n:Nat):Nat→Nat→List T→Nat→Nat→Nat→Nat→List T→Nat→Nat→Nat→Nat→List T→Nat→List T→Nat→List T→Int→Nat→Int→Option (Nat × List T × Nat × Nat × Nat × Nat × List T × Nat × Nat × Nat × Nat × List T × Nat × List T × Nat × List T × Int × Nat)
 | 0,_,_,_,_,_,_,_,_,_,_,_,_,_,_,_,_,_,_,_=>none
 | m+1,n1,l2,x3,x4,x5,n6,l7,x8,x9,x10,n11,l12,n13,l14,n15,l16,i17,x18,i19 =>
   br (decide (i19<(n13:Int))) (
    gd (decide ((0≤i19)∧(i19<(n13:Int)))) (
    gd (okAt [(CK.flt .f32)] l14 (Int.toNat i19)) (
    bd (f156 n (fAt l14 (Int.toNat i19))) fun r20 =>
    let x21:=r20
    br (fgt .f32 x21 x18) (
     gd (decide ((0≤i19)∧(i19<(n13:Int)))) (
     gd (okAt [(CK.flt .f32)] l14 (Int.toNat i19)) (
     bd (f156 n (fAt l14 (Int.toNat i19))) fun r22 =>
     let x23:=r22
     f123.l1 n m n1 l2 x3 x4 x5 n6 l7 x8 x9 x10 n11 l12 n13 l14 n15 l16 i17 x23 (IntKind.i64.wrap (i19+(1:Int)))))) (
     f123.l1 n m n1 l2 x3 x4 x5 n6 l7 x8 x9 x10 n11 l12 n13 l14 n15 l16 i17 x18 (IntKind.i64.wrap (i19+(1:Int))))))) (
    some (n1,l2,x3,x4,x5,n6,l7,x8,x9,x10,n11,l12,n13,l14,n15,l16,i17,x18))
termination_by structural x=>x
def f123.l0 (n:Nat):Nat→Nat→List T→Nat→Nat→Nat→Nat→List T→Nat→Nat→Nat→Nat→List T→Nat→List T→Nat→List T→Int→Option (Nat × Nat × Nat × Nat × List T × Nat × Nat × Nat × Nat × List T × Nat × List T × Nat × List T)
 | 0,_,_,_,_,_,_,_,_,_,_,_,_,_,_,_,_,_=>none
 | m+1,n1,l2,x3,x4,x5,n6,l7,x8,x9,x10,n11,l12,n13,l14,n15,l16,i17 =>
   br (decide (i17<(n1:Int))) (
    gd ((decide ((0≤i17)∧(i17<(n1:Int))))&&(okAt [(CK.flt .f32)] l2 (Int.toNat i17))) (
    gd (Nat.ble (n13+1) 2147483648) (
    let n18:=(n13+1)
    let l19:=(l14++(setN (reps 1 [(T.flt .f32 0)]) 0 [(T.flt .f32 (fAt l2 (Int.toNat i17)))]))
    bd (f123.l1 n n n1 l2 x3 x4 x5 n6 l7 x8 x9 x10 n11 l12 n18 l19 n15 l16 i17 0 (0:Int)) fun r20 =>
    let n21:=r20.1
    let l22:=r20.2.1
    let x23:=r20.2.2.1
    let x24:=r20.2.2.2.1
    let x25:=r20.2.2.2.2.1
    let n26:=r20.2.2.2.2.2.1
    let l27:=r20.2.2.2.2.2.2.1
    let x28:=r20.2.2.2.2.2.2.2.1
    let x29:=r20.2.2.2.2.2.2.2.2.1
    let x30:=r20.2.2.2.2.2.2.2.2.2.1
    let n31:=r20.2.2.2.2.2.2.2.2.2.2.1
    let l32:=r20.2.2.2.2.2.2.2.2.2.2.2.1
    let n33:=r20.2.2.2.2.2.2.2.2.2.2.2.2.1
    let l34:=r20.2.2.2.2.2.2.2.2.2.2.2.2.2.1
    let n35:=r20.2.2.2.2.2.2.2.2.2.2.2.2.2.2.1
    let l36:=r20.2.2.2.2.2.2.2.2.2.2.2.2.2.2.2.1
    let i37:=r20.2.2.2.2.2.2.2.2.2.2.2.2.2.2.2.2.1
    let x38:=r20.2.2.2.2.2.2.2.2.2.2.2.2.2.2.2.2.2
    br (fgt .f32 x38 x23) (
     let x39:=(fdiv .f32 x23 x38)
     let x40:=(fadd .f32 x25 x24)
     br (flt .f32 x39 x40) (
      gd (decide ((0≤(0:Int))∧((0:Int)<(n33:Int)))) (
      gd (okAt [(CK.flt .f32)] l34 0) (
      bd (f155 n (fmul .f32 (fAt l34 0) x39) x23) fun r41 =>
      let x42:=r41
      gd (Nat.ble (n35+1) 2147483648) (
      let n43:=(n35+1)
      let l44:=(l36++(setN (reps 1 [(T.flt .f32 0)]) 0 [(T.flt .f32 x42)]))
      gd (decide ((0≤(1:Int))∧(((1:Int)≤(n33:Int))∧((n33:Int)≤(n33:Int))))) (
      gd (Nat.ble (0+(n33 - 1)) 2147483648) (
      let n45:=(0+(n33 - 1))
      let l46:=((reps 0 [(T.flt .f32 0)])++(List.take (n33 - 1) (List.drop 1 l34)))
      f123.l0 n m n21 l22 x23 x24 x39 n26 l27 x28 x29 x30 n31 l32 n45 l46 n43 l44 (IntKind.i64.wrap (i37+(1:Int))))))))) (
      br (fne .f32 x40 x40) (
       gd (decide ((0≤(0:Int))∧((0:Int)<(n33:Int)))) (
       gd (okAt [(CK.flt .f32)] l34 0) (
       bd (f155 n (fmul .f32 (fAt l34 0) x39) x23) fun r47 =>
       let x48:=r47
       gd (Nat.ble (n35+1) 2147483648) (
       let n49:=(n35+1)
       let l50:=(l36++(setN (reps 1 [(T.flt .f32 0)]) 0 [(T.flt .f32 x48)]))
       gd (decide ((0≤(1:Int))∧(((1:Int)≤(n33:Int))∧((n33:Int)≤(n33:Int))))) (
       gd (Nat.ble (0+(n33 - 1)) 2147483648) (
       let n51:=(0+(n33 - 1))
       let l52:=((reps 0 [(T.flt .f32 0)])++(List.take (n33 - 1) (List.drop 1 l34)))
       f123.l0 n m n21 l22 x23 x24 x39 n26 l27 x28 x29 x30 n31 l32 n51 l52 n49 l50 (IntKind.i64.wrap (i37+(1:Int))))))))) (
       gd (decide ((0≤(0:Int))∧((0:Int)<(n33:Int)))) (
       gd (okAt [(CK.flt .f32)] l34 0) (
       bd (f155 n (fmul .f32 (fAt l34 0) x40) x23) fun r53 =>
       let x54:=r53
       gd (Nat.ble (n35+1) 2147483648) (
       let n55:=(n35+1)
       let l56:=(l36++(setN (reps 1 [(T.flt .f32 0)]) 0 [(T.flt .f32 x54)]))
       gd (decide ((0≤(1:Int))∧(((1:Int)≤(n33:Int))∧((n33:Int)≤(n33:Int))))) (
       gd (Nat.ble (0+(n33 - 1)) 2147483648) (
       let n57:=(0+(n33 - 1))
       let l58:=((reps 0 [(T.flt .f32 0)])++(List.take (n33 - 1) (List.drop 1 l34)))
       f123.l0 n m n21 l22 x23 x24 x40 n26 l27 x28 x29 x30 n31 l32 n57 l58 n55 l56 (IntKind.i64.wrap (i37+(1:Int))))))))))) (
     let x59:=(fadd .f32 x25 x24)
     br (flt .f32 1065353216 x59) (
      gd (decide ((0≤(0:Int))∧((0:Int)<(n33:Int)))) (
      gd (okAt [(CK.flt .f32)] l34 0) (
      bd (f155 n (fmul .f32 (fAt l34 0) 1065353216) x23) fun r60 =>
      let x61:=r60
      gd (Nat.ble (n35+1) 2147483648) (
      let n62:=(n35+1)
      let l63:=(l36++(setN (reps 1 [(T.flt .f32 0)]) 0 [(T.flt .f32 x61)]))
      gd (decide ((0≤(1:Int))∧(((1:Int)≤(n33:Int))∧((n33:Int)≤(n33:Int))))) (
      gd (Nat.ble (0+(n33 - 1)) 2147483648) (
      let n64:=(0+(n33 - 1))
      let l65:=((reps 0 [(T.flt .f32 0)])++(List.take (n33 - 1) (List.drop 1 l34)))
      f123.l0 n m n21 l22 x23 x24 1065353216 n26 l27 x28 x29 x30 n31 l32 n64 l65 n62 l63 (IntKind.i64.wrap (i37+(1:Int))))))))) (
      br (fne .f32 x59 x59) (
       gd (decide ((0≤(0:Int))∧((0:Int)<(n33:Int)))) (
       gd (okAt [(CK.flt .f32)] l34 0) (
       bd (f155 n (fmul .f32 (fAt l34 0) 1065353216) x23) fun r66 =>
       let x67:=r66
       gd (Nat.ble (n35+1) 2147483648) (
       let n68:=(n35+1)
       let l69:=(l36++(setN (reps 1 [(T.flt .f32 0)]) 0 [(T.flt .f32 x67)]))
       gd (decide ((0≤(1:Int))∧(((1:Int)≤(n33:Int))∧((n33:Int)≤(n33:Int))))) (
       gd (Nat.ble (0+(n33 - 1)) 2147483648) (
       let n70:=(0+(n33 - 1))
       let l71:=((reps 0 [(T.flt .f32 0)])++(List.take (n33 - 1) (List.drop 1 l34)))
       f123.l0 n m n21 l22 x23 x24 1065353216 n26 l27 x28 x29 x30 n31 l32 n70 l71 n68 l69 (IntKind.i64.wrap (i37+(1:Int))))))))) (
       gd (decide ((0≤(0:Int))∧((0:Int)<(n33:Int)))) (
       gd (okAt [(CK.flt .f32)] l34 0) (
       bd (f155 n (fmul .f32 (fAt l34 0) x59) x23) fun r72 =>
       let x73:=r72
       gd (Nat.ble (n35+1) 2147483648) (
       let n74:=(n35+1)
       let l75:=(l36++(setN (reps 1 [(T.flt .f32 0)]) 0 [(T.flt .f32 x73)]))
       gd (decide ((0≤(1:Int))∧(((1:Int)≤(n33:Int))∧((n33:Int)≤(n33:Int))))) (
       gd (Nat.ble (0+(n33 - 1)) 2147483648) (
       let n76:=(0+(n33 - 1))
       let l77:=((reps 0 [(T.flt .f32 0)])++(List.take (n33 - 1) (List.drop 1 l34)))
       f123.l0 n m n21 l22 x23 x24 x59 n26 l27 x28 x29 x30 n31 l32 n76 l77 n74 l75 (IntKind.i64.wrap (i37+(1:Int)))))))))))))) (
    some (x3,x4,x5,n6,l7,x8,x9,x10,n11,l12,n13,l14,n15,l16))
termination_by structural x=>x
def f123:Nat→Nat→Nat→Nat→Nat→List T→Nat→List T→Option (Nat × List T × Nat × Nat × Nat × Nat × List T × Bool)
 | 0,_,_,_,_,_,_,_=>none
 | n+1,x1,x2,x3,n4,l5,n6,l7 =>
   bd (f80 n n6 l7) fun r8 =>
   let b9:=r8
   br (!b9) (
    some (0,[],0,0,0,0,[],false)) (
    bd (f147 n x1) fun r10 =>
    let b11:=r10
    br (!b11) (
     some (0,[],0,0,0,0,[],false)) (
     br (decide ((n4:Int)>(64:Int))) (
      some (0,[],0,0,0,0,[],false)) (
      gd (Nat.ble (0+n4) 2147483648) (
      let n12:=(0+n4)
      let l13:=((reps 0 [(T.flt .f32 0)])++l5)
      bd (f123.l0 n n n6 l7 x1 x2 x3 n4 l5 0 0 0 0 [] n12 l13 0 (reps 0 [(T.flt .f32 0)]) (0:Int)) fun r14 =>
      let x15:=r14.1
      let x16:=r14.2.1
      let x17:=r14.2.2.1
      let n25:=r14.2.2.2.2.2.2.2.2.2.2.1
      let l26:=r14.2.2.2.2.2.2.2.2.2.2.2.1
      let n27:=r14.2.2.2.2.2.2.2.2.2.2.2.2.1
      let l28:=r14.2.2.2.2.2.2.2.2.2.2.2.2.2
      some (n27,l28,x15,x16,x17,n25,l26,true)))))
def sg_fffll:Sig (Nat × Nat × Nat × Nat × List T × Nat × List T) where
 pk:=fun v=>[.flt v.1,.flt v.2.1,.flt v.2.2.1,.lst v.2.2.2.1 v.2.2.2.2.1,.lst v.2.2.2.2.2.1 v.2.2.2.2.2.2]
 up:=fun ls=>match ls with
  | [.flt a0,.flt a1,.flt a2,.lst a3 a4,.lst a5 a6]=>some (a0,a1,a2,a3,a4,a5,a6)
  | _=>none
 ok:=by intro _ _ h;split at h <;>cases h;rfl
def sg_lffflb:Sig (Nat × List T × Nat × Nat × Nat × Nat × List T × Bool) where
 pk:=fun v=>[.lst v.1 v.2.1,.flt v.2.2.1,.flt v.2.2.2.1,.flt v.2.2.2.2.1,.lst v.2.2.2.2.2.1 v.2.2.2.2.2.2.1,.bool v.2.2.2.2.2.2.2]
 up:=fun ls=>match ls with
  | [.lst a0 a1,.flt a2,.flt a3,.flt a4,.lst a5 a6,.bool a7]=>some (a0,a1,a2,a3,a4,a5,a6,a7)
  | _=>none
 ok:=by intro _ _ h;split at h <;>cases h;rfl
def sg_lffflffflllifi:Sig (Nat × List T × Nat × Nat × Nat × Nat × List T × Nat × Nat × Nat × Nat × List T × Nat × List T × Nat × List T × Int × Nat × Int) where
 pk:=fun v=>[.lst v.1 v.2.1,.flt v.2.2.1,.flt v.2.2.2.1,.flt v.2.2.2.2.1,.lst v.2.2.2.2.2.1 v.2.2.2.2.2.2.1,.flt v.2.2.2.2.2.2.2.1,.flt v.2.2.2.2.2.2.2.2.1,.flt v.2.2.2.2.2.2.2.2.2.1,.lst v.2.2.2.2.2.2.2.2.2.2.1 v.2.2.2.2.2.2.2.2.2.2.2.1,.lst v.2.2.2.2.2.2.2.2.2.2.2.2.1 v.2.2.2.2.2.2.2.2.2.2.2.2.2.1,.lst v.2.2.2.2.2.2.2.2.2.2.2.2.2.2.1 v.2.2.2.2.2.2.2.2.2.2.2.2.2.2.2.1,.int v.2.2.2.2.2.2.2.2.2.2.2.2.2.2.2.2.1,.flt v.2.2.2.2.2.2.2.2.2.2.2.2.2.2.2.2.2.1,.int v.2.2.2.2.2.2.2.2.2.2.2.2.2.2.2.2.2.2]
 up:=fun ls=>match ls with
  | [.lst a0 a1,.flt a2,.flt a3,.flt a4,.lst a5 a6,.flt a7,.flt a8,.flt a9,.lst a10 a11,.lst a12 a13,.lst a14 a15,.int a16,.flt a17,.int a18]=>some (a0,a1,a2,a3,a4,a5,a6,a7,a8,a9,a10,a11,a12,a13,a14,a15,a16,a17,a18)
  | _=>none
 ok:=by intro _ _ h;split at h <;>cases h;rfl
def sg_lffflffflllif:Sig (Nat × List T × Nat × Nat × Nat × Nat × List T × Nat × Nat × Nat × Nat × List T × Nat × List T × Nat × List T × Int × Nat) where
 pk:=fun v=>[.lst v.1 v.2.1,.flt v.2.2.1,.flt v.2.2.2.1,.flt v.2.2.2.2.1,.lst v.2.2.2.2.2.1 v.2.2.2.2.2.2.1,.flt v.2.2.2.2.2.2.2.1,.flt v.2.2.2.2.2.2.2.2.1,.flt v.2.2.2.2.2.2.2.2.2.1,.lst v.2.2.2.2.2.2.2.2.2.2.1 v.2.2.2.2.2.2.2.2.2.2.2.1,.lst v.2.2.2.2.2.2.2.2.2.2.2.2.1 v.2.2.2.2.2.2.2.2.2.2.2.2.2.1,.lst v.2.2.2.2.2.2.2.2.2.2.2.2.2.2.1 v.2.2.2.2.2.2.2.2.2.2.2.2.2.2.2.1,.int v.2.2.2.2.2.2.2.2.2.2.2.2.2.2.2.2.1,.flt v.2.2.2.2.2.2.2.2.2.2.2.2.2.2.2.2.2]
 up:=fun ls=>match ls with
  | [.lst a0 a1,.flt a2,.flt a3,.flt a4,.lst a5 a6,.flt a7,.flt a8,.flt a9,.lst a10 a11,.lst a12 a13,.lst a14 a15,.int a16,.flt a17]=>some (a0,a1,a2,a3,a4,a5,a6,a7,a8,a9,a10,a11,a12,a13,a14,a15,a16,a17)
  | _=>none
 ok:=by intro _ _ h;split at h <;>cases h;rfl
def sg_lffflfffllli:Sig (Nat × List T × Nat × Nat × Nat × Nat × List T × Nat × Nat × Nat × Nat × List T × Nat × List T × Nat × List T × Int) where
 pk:=fun v=>[.lst v.1 v.2.1,.flt v.2.2.1,.flt v.2.2.2.1,.flt v.2.2.2.2.1,.lst v.2.2.2.2.2.1 v.2.2.2.2.2.2.1,.flt v.2.2.2.2.2.2.2.1,.flt v.2.2.2.2.2.2.2.2.1,.flt v.2.2.2.2.2.2.2.2.2.1,.lst v.2.2.2.2.2.2.2.2.2.2.1 v.2.2.2.2.2.2.2.2.2.2.2.1,.lst v.2.2.2.2.2.2.2.2.2.2.2.2.1 v.2.2.2.2.2.2.2.2.2.2.2.2.2.1,.lst v.2.2.2.2.2.2.2.2.2.2.2.2.2.2.1 v.2.2.2.2.2.2.2.2.2.2.2.2.2.2.2.1,.int v.2.2.2.2.2.2.2.2.2.2.2.2.2.2.2.2]
 up:=fun ls=>match ls with
  | [.lst a0 a1,.flt a2,.flt a3,.flt a4,.lst a5 a6,.flt a7,.flt a8,.flt a9,.lst a10 a11,.lst a12 a13,.lst a14 a15,.int a16]=>some (a0,a1,a2,a3,a4,a5,a6,a7,a8,a9,a10,a11,a12,a13,a14,a15,a16)
  | _=>none
 ok:=by intro _ _ h;split at h <;>cases h;rfl
def sg_ffflffflll:Sig (Nat × Nat × Nat × Nat × List T × Nat × Nat × Nat × Nat × List T × Nat × List T × Nat × List T) where
 pk:=fun v=>[.flt v.1,.flt v.2.1,.flt v.2.2.1,.lst v.2.2.2.1 v.2.2.2.2.1,.flt v.2.2.2.2.2.1,.flt v.2.2.2.2.2.2.1,.flt v.2.2.2.2.2.2.2.1,.lst v.2.2.2.2.2.2.2.2.1 v.2.2.2.2.2.2.2.2.2.1,.lst v.2.2.2.2.2.2.2.2.2.2.1 v.2.2.2.2.2.2.2.2.2.2.2.1,.lst v.2.2.2.2.2.2.2.2.2.2.2.2.1 v.2.2.2.2.2.2.2.2.2.2.2.2.2]
 up:=fun ls=>match ls with
  | [.flt a0,.flt a1,.flt a2,.lst a3 a4,.flt a5,.flt a6,.flt a7,.lst a8 a9,.lst a10 a11,.lst a12 a13]=>some (a0,a1,a2,a3,a4,a5,a6,a7,a8,a9,a10,a11,a12,a13)
  | _=>none
 ok:=by intro _ _ h;split at h <;>cases h;rfl
def f123.l1.P:AS:=⟨[(1,qS40),(2,.box [.leaf,.leaf,.leaf,.sl .shr [.leaf]] [.flt .f32 0,.flt .f32 0,.flt .f32 0,.lst 0 []] [] 0),(5,.box [.leaf,.leaf,.leaf,.sl .own [.leaf]] [.flt .f32 0,.flt .f32 0,.flt .f32 0,.lst 0 []] [] 0),(7,qS41),(8,qS41),(9,qS42),(10,qS44),(11,qS42)],0⟩
def f123.l1.A:Alt (Nat × List T × Nat × Nat × Nat × Nat × List T × Nat × Nat × Nat × Nat × List T × Nat × List T × Nat × List T × Int × Nat):=.one (.exit 2) ⟨[(1,qS40),(2,.box [.leaf,.leaf,.leaf,.sl .shr [.leaf]] [.flt .f32 0,.flt .f32 0,.flt .f32 0,.lst 0 []] [] 0),(5,.box [.leaf,.leaf,.leaf,.sl .own [.leaf]] [.flt .f32 0,.flt .f32 0,.flt .f32 0,.lst 0 []] [] 0),(7,qS41),(8,qS41),(9,qS42),(10,qS44)],0⟩ sg_lffflffflllif
def f123.l1.F (n m:Nat) (v:Nat × List T × Nat × Nat × Nat × Nat × List T × Nat × Nat × Nat × Nat × List T × Nat × List T × Nat × List T × Int × Nat × Int):=f123.l1 n m v.1 v.2.1 v.2.2.1 v.2.2.2.1 v.2.2.2.2.1 v.2.2.2.2.2.1 v.2.2.2.2.2.2.1 v.2.2.2.2.2.2.2.1 v.2.2.2.2.2.2.2.2.1 v.2.2.2.2.2.2.2.2.2.1 v.2.2.2.2.2.2.2.2.2.2.1 v.2.2.2.2.2.2.2.2.2.2.2.1 v.2.2.2.2.2.2.2.2.2.2.2.2.1 v.2.2.2.2.2.2.2.2.2.2.2.2.2.1 v.2.2.2.2.2.2.2.2.2.2.2.2.2.2.1 v.2.2.2.2.2.2.2.2.2.2.2.2.2.2.2.1 v.2.2.2.2.2.2.2.2.2.2.2.2.2.2.2.2.1 v.2.2.2.2.2.2.2.2.2.2.2.2.2.2.2.2.2.1 v.2.2.2.2.2.2.2.2.2.2.2.2.2.2.2.2.2.2
def f123.l1.W (n:Nat):LpW:=.of 176 f123.l1.P sg_lffflffflllifi f123.l1.A (f123.l1.F n n)
def f123.l0.P:AS:=⟨[(1,qS40),(2,.box [.leaf,.leaf,.leaf,.sl .shr [.leaf]] [.flt .f32 0,.flt .f32 0,.flt .f32 0,.lst 0 []] [] 0),(5,.box [.leaf,.leaf,.leaf,.sl .own [.leaf]] [.flt .f32 0,.flt .f32 0,.flt .f32 0,.lst 0 []] [] 0),(7,qS41),(8,qS41),(9,qS42)],0⟩
def f123.l0.A:Alt (Nat × Nat × Nat × Nat × List T × Nat × Nat × Nat × Nat × List T × Nat × List T × Nat × List T):=.one (.exit 0) ⟨[(2,.box [.leaf,.leaf,.leaf,.sl .shr [.leaf]] [.flt .f32 0,.flt .f32 0,.flt .f32 0,.lst 0 []] [] 0),(5,.box [.leaf,.leaf,.leaf,.sl .own [.leaf]] [.flt .f32 0,.flt .f32 0,.flt .f32 0,.lst 0 []] [] 0),(7,qS41),(8,qS41)],0⟩ sg_ffflffflll
def f123.l0.F (n m:Nat) (v:Nat × List T × Nat × Nat × Nat × Nat × List T × Nat × Nat × Nat × Nat × List T × Nat × List T × Nat × List T × Int):=f123.l0 n m v.1 v.2.1 v.2.2.1 v.2.2.2.1 v.2.2.2.2.1 v.2.2.2.2.2.1 v.2.2.2.2.2.2.1 v.2.2.2.2.2.2.2.1 v.2.2.2.2.2.2.2.2.1 v.2.2.2.2.2.2.2.2.2.1 v.2.2.2.2.2.2.2.2.2.2.1 v.2.2.2.2.2.2.2.2.2.2.2.1 v.2.2.2.2.2.2.2.2.2.2.2.2.1 v.2.2.2.2.2.2.2.2.2.2.2.2.2.1 v.2.2.2.2.2.2.2.2.2.2.2.2.2.2.1 v.2.2.2.2.2.2.2.2.2.2.2.2.2.2.2.1 v.2.2.2.2.2.2.2.2.2.2.2.2.2.2.2.2
def f123.l0.W (n:Nat):LpW:=.of 96 f123.l0.P sg_lffflfffllli f123.l0.A (f123.l0.F n n)
def f123.P:List Arg:=[⟨.val,⟨true,[.leaf,.leaf,.leaf,.sl .shr [.leaf]],[.flt .f32 0,.flt .f32 0,.flt .f32 0,.lst 0 []]⟩⟩,qA18]
def f123.A:RAlt (Nat × List T × Nat × Nat × Nat × Nat × List T × Bool):=.one ⟨[qV13,⟨true,[.leaf,.leaf,.leaf,.sl .own [.leaf]],[.flt .f32 0,.flt .f32 0,.flt .f32 0,.lst 0 []]⟩,qV15],[none,none]⟩ sg_lffflb
def f123.F (n:Nat) (v:Nat × Nat × Nat × Nat × List T × Nat × List T):=f123 n v.1 v.2.1 v.2.2.1 v.2.2.2.1 v.2.2.2.2.1 v.2.2.2.2.2.1 v.2.2.2.2.2.2
def f123.O (n:Nat):Orc:=orcOf (E:=E) [f147.w,f80.w,f156.w,f155.w] [f123.l1.W n,f123.l0.W n] n
theorem f123.l1.ok:∀ n,LpS 123 c123 1 n (f123.O n):=lpS f123.l1.P sg_lffflffflllifi f123.l1.A f123.l1.F
theorem f123.l0.ok:∀ n,LpS 123 c123 0 n (f123.O n):=lpS f123.l0.P sg_lffflfffllli f123.l0.A f123.l0.F [loopAt c123 1] (fun n=>(.cons (f123.l1.ok n) .nil))
theorem f123.ok:FnS 123 f123.P sg_fffll f123.A f123.F:=fnS c123 f123.O [loopAt c123 0] (fun n=>(.cons (f123.l0.ok n) .nil))
def f123.w:FnW E:=fnW 123 f123.P sg_fffll f123.A f123.F f123.ok
def f94:Nat→Int→Int→Nat→List T→Nat→List T→Nat→List T→Option (Nat × List T × Nat × List T)
 | 0,_,_,_,_,_,_,_,_=>none
 | n+1,i1,i2,n3,l4,n5,l6,n7,l8 =>
   br (i1==(0:Int)) (
    gd ((decide ((0≤(0:Int))∧((0:Int)<(n3:Int))))&&(okAt [(CK.flt .f32)] l4 0)) (
    bd (f117 n n7 l8 (fAt l4 0)) fun r9 =>
    let n10:=r9.1
    let l11:=r9.2
    some (n10,l11,0,(reps 0 [(T.flt .f32 0)])))) (
    br (i1==(1:Int)) (
     gd ((decide ((0≤(0:Int))∧((0:Int)<(n3:Int))))&&(okAt [(CK.flt .f32)] l4 0)) (
     gd ((decide ((0≤(1:Int))∧((1:Int)<(n3:Int))))&&(okAt [(CK.flt .f32)] l4 1)) (
     gd ((decide ((0≤(2:Int))∧((2:Int)<(n3:Int))))&&(okAt [(CK.flt .f32)] l4 2)) (
     gd ((decide ((0≤(3:Int))∧((3:Int)<(n3:Int))))&&(okAt [(CK.flt .f32)] l4 3)) (
     gd ((decide ((0≤(4:Int))∧((4:Int)<(n3:Int))))&&(okAt [(CK.flt .f32)] l4 4)) (
     let x12:=(fAt l4 0)
     let x13:=(fAt l4 1)
     let x14:=(fAt l4 2)
     let x15:=(fAt l4 3)
     let x16:=(fAt l4 4)
     gd ((decide ((0≤(0:Int))∧((0:Int)<(n5:Int))))&&(okAt [(CK.flt .f32)] l6 0)) (
     gd ((decide ((0≤(1:Int))∧((1:Int)<(n5:Int))))&&(okAt [(CK.flt .f32)] l6 1)) (
     bd (f118 n x12 x13 x14 x15 x16 (1:Int) true (fAt l6 0) (fAt l6 1) 0 0 n7 l8) fun r17 =>
     let n18:=r17.1
     let l19:=r17.2.1
     let x20:=r17.2.2.1
     let x21:=r17.2.2.2.1
     some (n18,l19,2,(setN (setN (reps 2 [(T.flt .f32 0)]) 0 [(T.flt .f32 x20)]) 1 [(T.flt .f32 x21)])))))))))) (
     br (i1==(2:Int)) (
      gd (Nat.ble (0+n5) 2147483648) (
      let n24:=(0+n5)
      let l25:=((reps 0 [(T.flt .f32 0)])++l6)
      bd (f94.l0 n n n7 l8 n3 l4 n24 l25 0 (reps 0 [(T.flt .f32 0)]) (0:Int)) fun r26 =>
      let n27:=r26.1
      let l28:=r26.2.1
      let n29:=r26.2.2.1
      let l30:=r26.2.2.2
      some (n29,l30,n27,l28))) (
      br (i1==(3:Int)) (
       gd ((decide ((0≤(0:Int))∧((0:Int)<(n3:Int))))&&(okAt [(CK.flt .f32)] l4 0)) (
       gd ((decide ((0≤(1:Int))∧((1:Int)<(n3:Int))))&&(okAt [(CK.flt .f32)] l4 1)) (
       gd ((decide ((0≤(0:Int))∧((0:Int)<(n5:Int))))&&(okAt [(CK.flt .f32)] l6 0)) (
       gd ((decide ((0≤(2:Int))∧((2:Int)<(n3:Int))))&&(okAt [(CK.flt .f32)] l4 2)) (
       gd ((decide ((0≤(3:Int))∧((3:Int)<(n3:Int))))&&(okAt [(CK.flt .f32)] l4 3)) (
       let x31:=(fAt l4 0)
       let x32:=(fAt l4 1)
       let x33:=(fAt l6 0)
       let x34:=(fAt l4 2)
       let x35:=(fAt l4 3)
       bd (f120 n x31 x32 x33 x34 x35 n7 l8 n7 l8) fun r36 =>
       let n37:=r36.1
       let l38:=r36.2.1
       let x41:=r36.2.2.2.2.1
       some (n37,l38,1,(setN (reps 1 [(T.flt .f32 0)]) 0 [(T.flt .f32 x41)])))))))) (
       br (i1==(4:Int)) (
        gd ((decide ((0≤(0:Int))∧((0:Int)<(n3:Int))))&&(okAt [(CK.flt .f32)] l4 0)) (
        bd (f121 n n7 l8 (fAt l4 0)) fun r44 =>
        let n45:=r44.1
        let l46:=r44.2.1
        some (n45,l46,0,(reps 0 [(T.flt .f32 0)])))) (
        br (i1==(5:Int)) (
         bd (f94.l1 n n n7 l8 0 (reps 0 [(T.flt .f32 0)]) (0:Int)) fun r48 =>
         let n49:=r48.1
         let l50:=r48.2
         some (n49,l50,0,(reps 0 [(T.flt .f32 0)]))) (
         gd ((decide ((0≤(0:Int))∧((0:Int)<(n3:Int))))&&(okAt [(CK.flt .f32)] l4 0)) (
         gd ((decide ((0≤(1:Int))∧((1:Int)<(n3:Int))))&&(okAt [(CK.flt .f32)] l4 1)) (
         gd ((decide ((0≤(0:Int))∧((0:Int)<(n5:Int))))&&(okAt [(CK.flt .f32)] l6 0)) (
         gd (decide ((0≤(1:Int))∧(((1:Int)≤(n5:Int))∧((n5:Int)≤(n5:Int))))) (
         let x51:=(fAt l4 0)
         let x52:=(fAt l4 1)
         let x53:=(fAt l6 0)
         let n54:=(n5 - 1)
         let l55:=(List.take (n5 - 1) (List.drop 1 l6))
         bd (f123 n x51 x52 x53 n54 l55 n7 l8) fun r56 =>
         let n57:=r56.1
         let l58:=r56.2.1
         let x61:=r56.2.2.2.2.1
         let n62:=r56.2.2.2.2.2.1
         let l63:=r56.2.2.2.2.2.2.1
         gd (Nat.ble (1+n62) 2147483648) (
         some (n57,l58,(1+n62),((setN (reps 1 [(T.flt .f32 0)]) 0 [(T.flt .f32 x61)])++l63)))))))))))))
def sg_iilll:Sig (Int × Int × Nat × List T × Nat × List T × Nat × List T) where
 pk:=fun v=>[.int v.1,.int v.2.1,.lst v.2.2.1 v.2.2.2.1,.lst v.2.2.2.2.1 v.2.2.2.2.2.1,.lst v.2.2.2.2.2.2.1 v.2.2.2.2.2.2.2]
 up:=fun ls=>match ls with
  | [.int a0,.int a1,.lst a2 a3,.lst a4 a5,.lst a6 a7]=>some (a0,a1,a2,a3,a4,a5,a6,a7)
  | _=>none
 ok:=by intro _ _ h;split at h <;>cases h;rfl
def sg_lllli:Sig (Nat × List T × Nat × List T × Nat × List T × Nat × List T × Int) where
 pk:=fun v=>[.lst v.1 v.2.1,.lst v.2.2.1 v.2.2.2.1,.lst v.2.2.2.2.1 v.2.2.2.2.2.1,.lst v.2.2.2.2.2.2.1 v.2.2.2.2.2.2.2.1,.int v.2.2.2.2.2.2.2.2]
 up:=fun ls=>match ls with
  | [.lst a0 a1,.lst a2 a3,.lst a4 a5,.lst a6 a7,.int a8]=>some (a0,a1,a2,a3,a4,a5,a6,a7,a8)
  | _=>none
 ok:=by intro _ _ h;split at h <;>cases h;rfl
def f94.l0.P:AS:=⟨[(2,qS40),(8,qS40),(12,qS41),(13,qS41),(14,qS42)],0⟩
def f94.l0.A:Alt (Nat × List T × Nat × List T):=.one (.exit 1) ⟨[(12,qS41),(13,qS41)],0⟩ sg_ll
def f94.l0.F (n m:Nat) (v:Nat × List T × Nat × List T × Nat × List T × Nat × List T × Int):=f94.l0 n m v.1 v.2.1 v.2.2.1 v.2.2.2.1 v.2.2.2.2.1 v.2.2.2.2.2.1 v.2.2.2.2.2.2.1 v.2.2.2.2.2.2.2.1 v.2.2.2.2.2.2.2.2
def f94.l0.W (n:Nat):LpW:=.of 208 f94.l0.P sg_lllli f94.l0.A (f94.l0.F n n)
def f94.l1.P:AS:=⟨[(2,qS40),(21,qS41),(22,qS42)],0⟩
def f94.l1.A:Alt (Nat × List T):=.one (.exit 3) ⟨[(21,qS41)],0⟩ sg_l
def f94.l1.F (n m:Nat) (v:Nat × List T × Nat × List T × Int):=f94.l1 n m v.1 v.2.1 v.2.2.1 v.2.2.2.1 v.2.2.2.2
def f94.l1.W (n:Nat):LpW:=.of 464 f94.l1.P sg_lli f94.l1.A (f94.l1.F n n)
def f94.P:List Arg:=[⟨.val,⟨false,[.rf .shr [.leaf,.leaf,.sl .shr [.leaf]]],[.ref [.int .i64 0,.int .i64 0,.lst 0 []]]⟩⟩,qA18,qA18]
def f94.A:RAlt (Nat × List T × Nat × List T):=.one ⟨[qV13,qV13],[none,none,none]⟩ sg_ll
def f94.F (n:Nat) (v:Int × Int × Nat × List T × Nat × List T × Nat × List T):=f94 n v.1 v.2.1 v.2.2.1 v.2.2.2.1 v.2.2.2.2.1 v.2.2.2.2.2.1 v.2.2.2.2.2.2.1 v.2.2.2.2.2.2.2
def f94.O (n:Nat):Orc:=orcOf (E:=E) [f117.w,f119.w,f118.w,f120.w,f121.w,f122.w,f123.w] [f94.l0.W n,f94.l1.W n] n
theorem f94.l0.ok:∀ n,LpS 94 c94 0 n (f94.O n):=lpS f94.l0.P sg_lllli f94.l0.A f94.l0.F
theorem f94.l1.ok:∀ n,LpS 94 c94 1 n (f94.O n):=lpS f94.l1.P sg_lli f94.l1.A f94.l1.F
theorem f94.ok:FnS 94 f94.P sg_iilll f94.A f94.F:=fnS c94 f94.O [loopAt c94 0,loopAt c94 1] (fun n=>(.cons (f94.l0.ok n) (.cons (f94.l1.ok n) .nil)))
def f94.w:FnW E:=fnW 94 f94.P sg_iilll f94.A f94.F f94.ok
def f57.l0 (n:Nat):Nat→Nat→List T→Nat→List T→Nat→List T→Nat→List T→Int→Option (Nat × List T × Nat × List T)
 | 0,_,_,_,_,_,_,_,_,_=>none
 | m+1,n1,l2,n3,l4,n5,l6,n7,l8,i9 =>
   br (decide (i9<(n1:Int))) (
    gd ((decide ((0≤i9)∧(i9<(n1:Int))))&&(okAt [(CK.int .i64),(CK.int .i64),CK.lst] l2 (((Int.toNat i9) * 3)+0))) (
    gd ((decide ((0≤i9)∧(i9<(n3:Int))))&&(okAt [CK.lst] l4 (Int.toNat i9))) (
    bd (f94 n (iAt l2 (((Int.toNat i9) * 3)+0)) (iAt l2 ((((Int.toNat i9) * 3)+0)+1)) (nAt l2 (((((Int.toNat i9) * 3)+0)+1)+1)) (lAt l2 (((((Int.toNat i9) * 3)+0)+1)+1)) (nAt l4 (Int.toNat i9)) (lAt l4 (Int.toNat i9)) n5 l6) fun r10 =>
    let n11:=r10.1
    let l12:=r10.2.1
    let n13:=r10.2.2.1
    let l14:=r10.2.2.2
    gd (Nat.ble (n7+1) 2147483648) (
    let n15:=(n7+1)
    let l16:=(l8++(setN (reps 1 [(T.lst 0 [])]) 0 [(T.lst n13 l14)]))
    f57.l0 n m n1 l2 n3 l4 n11 l12 n15 l16 (IntKind.i64.wrap (i9+(1:Int))))))) (
    some (n5,l6,n7,l8))
def f57:Nat→Nat→List T→Nat→List T→Nat→List T→Option (Nat × List T × Nat × List T)
 | 0,_,_,_,_,_,_=>none
 | n+1,n1,l2,n3,l4,n5,l6 =>
   gd (Nat.ble (0+n5) 2147483648) (
   let n7:=(0+n5)
   let l8:=((reps 0 [(T.flt .f32 0)])++l6)
   bd (f57.l0 n n n1 l2 n3 l4 n7 l8 0 (reps 0 [(T.lst 0 [])]) (0:Int)) fun r9 =>
   let n10:=r9.1
   let l11:=r9.2.1
   let n12:=r9.2.2.1
   let l13:=r9.2.2.2
   some (n10,l11,n12,l13))
def sg_lll:Sig (Nat × List T × Nat × List T × Nat × List T) where
 pk:=fun v=>[.lst v.1 v.2.1,.lst v.2.2.1 v.2.2.2.1,.lst v.2.2.2.2.1 v.2.2.2.2.2]
 up:=fun ls=>match ls with
  | [.lst a0 a1,.lst a2 a3,.lst a4 a5]=>some (a0,a1,a2,a3,a4,a5)
  | _=>none
 ok:=by intro _ _ h;split at h <;>cases h;rfl
def f57.l0.P:AS:=⟨[(0,qS35),(1,.val false [.sl .shr [.sl .shr [.leaf]]] [.lst 0 []] [] 0),(8,qS41),(9,qS39),(10,qS42)],0⟩
def f57.l0.A:Alt (Nat × List T × Nat × List T):=.one (.exit 0) ⟨[(8,qS41),(9,qS39)],0⟩ sg_ll
def f57.l0.F (n m:Nat) (v:Nat × List T × Nat × List T × Nat × List T × Nat × List T × Int):=f57.l0 n m v.1 v.2.1 v.2.2.1 v.2.2.2.1 v.2.2.2.2.1 v.2.2.2.2.2.1 v.2.2.2.2.2.2.1 v.2.2.2.2.2.2.2.1 v.2.2.2.2.2.2.2.2
def f57.l0.W (n:Nat):LpW:=.of 64 f57.l0.P sg_lllli f57.l0.A (f57.l0.F n n)
def f57.P:List Arg:=[qA24,⟨.val,⟨false,[.sl .shr [.sl .shr [.leaf]]],[.lst 0 []]⟩⟩,qA18]
def f57.A:RAlt (Nat × List T × Nat × List T):=.one ⟨[qV13,qV11],[none,none,none]⟩ sg_ll
def f57.F (n:Nat) (v:Nat × List T × Nat × List T × Nat × List T):=f57 n v.1 v.2.1 v.2.2.1 v.2.2.2.1 v.2.2.2.2.1 v.2.2.2.2.2
def f57.O (n:Nat):Orc:=orcOf (E:=E) [f94.w] [f57.l0.W n] n
theorem f57.l0.ok:∀ n,LpS 57 c57 0 n (f57.O n):=lpS f57.l0.P sg_lllli f57.l0.A f57.l0.F
theorem f57.ok:FnS 57 f57.P sg_lll f57.A f57.F:=fnS c57 f57.O [loopAt c57 0] (fun n=>(.cons (f57.l0.ok n) .nil))
def f57.w:FnW E:=fnW 57 f57.P sg_lll f57.A f57.F f57.ok
def f22.l2 (n:Nat):Nat→Int→Int→Nat→List T→Nat→List T→Nat→List T→Nat→List T→Nat→List T→Int→Int→Nat→List T→Int→Int→Option (Int × Int × Nat × List T × Nat × List T × Nat × List T × Nat × List T × Nat × List T × Int × Int × Nat × List T)
 | 0,_,_,_,_,_,_,_,_,_,_,_,_,_,_,_,_,_,_=>none
 | m+1,i1,i2,n3,l4,n5,l6,n7,l8,n9,l10,n11,l12,i13,i14,n15,l16,i17,i18 =>
   br (decide (i18<i17)) (
    bd (f56 n n3 l4 n5 l6 i18 i14) fun r19 =>
    let n20:=r19.1
    let l21:=r19.2
    gd ((decide ((0≤i18)∧(i18<(n5:Int))))&&(okAt [CK.lst,(CK.int .i64),(CK.flt .f32),CK.bool,CK.bool] l6 (((Int.toNat i18) * 5)+0))) (
    gd (decide ((0≤i18)∧(i18<(n7:Int)))) (
    gd (okAt [CK.lst] l8 (Int.toNat i18)) (
    gd (decide ((0≤i13)∧((i13≤(n20:Int))∧((n20:Int)≤(n20:Int))))) (
    bd (f40 n (n20 - (Int.toNat i13)) (List.take (n20 - (Int.toNat i13)) (List.drop (Int.toNat i13) l21))) fun r22 =>
    let n23:=r22.1
    let l24:=r22.2
    gd ((okAt [CK.lst] l8 (Int.toNat i18))&&true) (
    bd (f57 n (nAt l6 (((Int.toNat i18) * 5)+0)) (lAt l6 (((Int.toNat i18) * 5)+0)) (nAt l8 (Int.toNat i18)) (lAt l8 (Int.toNat i18)) n23 l24) fun r25 =>
    let n26:=r25.1
    let l27:=r25.2.1
    let n28:=r25.2.2.1
    let l29:=r25.2.2.2
    gd (decide ((0≤i18)∧(i18<(n7:Int)))) (
    gd (Nat.ble ((Int.toNat i18)+1) (List.length l8)) (
    let l30:=(setN l8 (Int.toNat i18) [(T.lst n28 l29)])
    gd ((decide ((0≤i18)∧(i18<(n5:Int))))&&(okAt [CK.lst,(CK.int .i64),(CK.flt .f32),CK.bool,CK.bool] l6 (((Int.toNat i18) * 5)+0))) (
    bd (f44 n (nAt l6 (((Int.toNat i18) * 5)+0)) (lAt l6 (((Int.toNat i18) * 5)+0)) (iAt l6 ((((Int.toNat i18) * 5)+0)+1)) (fAt l6 (((((Int.toNat i18) * 5)+0)+1)+1)) (bAt l6 ((((((Int.toNat i18) * 5)+0)+1)+1)+1)) (bAt l6 (((((((Int.toNat i18) * 5)+0)+1)+1)+1)+1)) n26 l27) fun r31 =>
    let n32:=r31.1
    let l33:=r31.2.1
    let i34:=r31.2.2.1
    let x35:=r31.2.2.2.1
    let b36:=r31.2.2.2.2.1
    let b37:=r31.2.2.2.2.2.1
    gd (Nat.ble (n15+1) 2147483648) (
    let n40:=(n15+1)
    let l41:=(l16++(setN (reps 1 [(T.lst 0 []),(T.int .i64 (0:Int)),(T.flt .f32 0),(T.bool false),(T.bool false)]) 0 [(T.lst n32 l33),(T.int .i64 i34),(T.flt .f32 x35),(T.bool b36),(T.bool b37)]))
    f22.l2 n m i1 i2 n3 l4 n5 l6 n7 l30 n9 l10 n11 l12 i13 i14 n40 l41 i17 (IntKind.i64.wrap (i18+(1:Int))))))))))))) (
    some (i1,i2,n3,l4,n5,l6,n7,l8,n9,l10,n11,l12,i13,i14,n15,l16))
termination_by structural x=>x
def f85.l0 (n:Nat):Nat→Nat→List T→Bool→Int→Int→Option (Nat × List T × Bool)
 | 0,_,_,_,_,_=>none
 | m+1,n1,l2,b3,i4,i5 =>
   br (decide (i5<i4)) (
    br b3 (
     f85.l0 n m n1 l2 true i4 (IntKind.i64.wrap (i5+(1:Int)))) (
     gd ((decide ((0≤i5)∧(i5<(n1:Int))))&&(okAt [CK.lst,(CK.int .i64),(CK.flt .f32),CK.bool,CK.bool] l2 (((Int.toNat i5) * 5)+0))) (
     let b6:=(bAt l2 (((((((Int.toNat i5) * 5)+0)+1)+1)+1)+1))
     f85.l0 n m n1 l2 b6 i4 (IntKind.i64.wrap (i5+(1:Int)))))) (
    some (n1,l2,b3))
def f85.l1 (n:Nat):Nat→Nat→List T→Bool→Nat→List T→Int→Int→Option (Nat × List T)
 | 0,_,_,_,_,_,_,_=>none
 | m+1,n1,l2,b3,n4,l5,i6,i7 =>
   br (decide (i7<i6)) (
    gd ((decide ((0≤i7)∧(i7<(n1:Int))))&&(okAt [CK.lst,(CK.int .i64),(CK.flt .f32),CK.bool,CK.bool] l2 (((Int.toNat i7) * 5)+0))) (
    br (!(bAt l2 ((((((Int.toNat i7) * 5)+0)+1)+1)+1))) (
     gd ((decide ((0≤i7)∧(i7<(n1:Int))))&&(okAt [CK.lst,(CK.int .i64),(CK.flt .f32),CK.bool,CK.bool] l2 (((Int.toNat i7) * 5)+0))) (
     br (bAt l2 (((((((Int.toNat i7) * 5)+0)+1)+1)+1)+1)) (
      gd (Nat.ble (n4+1) 2147483648) (
      let n8:=(n4+1)
      let l9:=(l5++(setN (reps 1 [(T.int .i64 (0:Int))]) 0 [(T.int .i64 i7)]))
      f85.l1 n m n1 l2 b3 n8 l9 i6 (IntKind.i64.wrap (i7+(1:Int))))) (
      br (!b3) (
       gd (Nat.ble (n4+1) 2147483648) (
       let n10:=(n4+1)
       let l11:=(l5++(setN (reps 1 [(T.int .i64 (0:Int))]) 0 [(T.int .i64 i7)]))
       f85.l1 n m n1 l2 b3 n10 l11 i6 (IntKind.i64.wrap (i7+(1:Int))))) (
       f85.l1 n m n1 l2 b3 n4 l5 i6 (IntKind.i64.wrap (i7+(1:Int))))))) (
     f85.l1 n m n1 l2 b3 n4 l5 i6 (IntKind.i64.wrap (i7+(1:Int)))))) (
    some (n4,l5))
def f85:Nat→Nat→List T→Option (Nat × List T)
 | 0,_,_=>none
 | n+1,n1,l2 =>
   bd (f85.l0 n n n1 l2 false (n1:Int) (0:Int)) fun r3 =>
   let n4:=r3.1
   let l5:=r3.2.1
   let b6:=r3.2.2
   bd (f85.l1 n n n4 l5 b6 0 (reps 0 [(T.int .i64 (0:Int))]) (n4:Int) (0:Int)) fun r7 =>
   let n8:=r7.1
   let l9:=r7.2
   some (n8,l9)
def sg_lbii:Sig (Nat × List T × Bool × Int × Int) where
 pk:=fun v=>[.lst v.1 v.2.1,.bool v.2.2.1,.int v.2.2.2.1,.int v.2.2.2.2]
 up:=fun ls=>match ls with
  | [.lst a0 a1,.bool a2,.int a3,.int a4]=>some (a0,a1,a2,a3,a4)
  | _=>none
 ok:=by intro _ _ h;split at h <;>cases h;rfl
def sg_lblii:Sig (Nat × List T × Bool × Nat × List T × Int × Int) where
 pk:=fun v=>[.lst v.1 v.2.1,.bool v.2.2.1,.lst v.2.2.2.1 v.2.2.2.2.1,.int v.2.2.2.2.2.1,.int v.2.2.2.2.2.2]
 up:=fun ls=>match ls with
  | [.lst a0 a1,.bool a2,.lst a3 a4,.int a5,.int a6]=>some (a0,a1,a2,a3,a4,a5,a6)
  | _=>none
 ok:=by intro _ _ h;split at h <;>cases h;rfl
def f85.l0.P:AS:=⟨[(0,qS33),(3,qS43),(8,qS42),(9,qS42)],0⟩
def f85.l0.A:Alt (Nat × List T × Bool):=.one (.exit 0) ⟨[(0,qS33),(3,qS43),(48,.dead)],0⟩ sg_lb
def f85.l0.F (n m:Nat) (v:Nat × List T × Bool × Int × Int):=f85.l0 n m v.1 v.2.1 v.2.2.1 v.2.2.2.1 v.2.2.2.2
def f85.l0.W (n:Nat):LpW:=.of 48 f85.l0.P sg_lbii f85.l0.A (f85.l0.F n n)
def f85.l1.P:AS:=⟨[(0,qS33),(3,qS43),(5,qS41),(23,qS42),(24,qS42)],0⟩
def f85.l1.A:Alt (Nat × List T):=.one (.exit 2) ⟨[(5,qS41)],0⟩ sg_l
def f85.l1.F (n m:Nat) (v:Nat × List T × Bool × Nat × List T × Int × Int):=f85.l1 n m v.1 v.2.1 v.2.2.1 v.2.2.2.1 v.2.2.2.2.1 v.2.2.2.2.2.1 v.2.2.2.2.2.2
def f85.l1.W (n:Nat):LpW:=.of 144 f85.l1.P sg_lblii f85.l1.A (f85.l1.F n n)
def f85.P:List Arg:=[qA28]
def f85.A:RAlt (Nat × List T):=.one ⟨[qV13],[none]⟩ sg_l
def f85.F (n:Nat) (v:Nat × List T):=f85 n v.1 v.2
def f85.O (n:Nat):Orc:=orcOf (E:=E) [] [f85.l0.W n,f85.l1.W n] n
theorem f85.l0.ok:∀ n,LpS 85 c85 0 n (f85.O n):=lpS f85.l0.P sg_lbii f85.l0.A f85.l0.F
theorem f85.l1.ok:∀ n,LpS 85 c85 1 n (f85.O n):=lpS f85.l1.P sg_lblii f85.l1.A f85.l1.F
theorem f85.ok:FnS 85 f85.P sg_l f85.A f85.F:=fnS c85 f85.O [loopAt c85 0,loopAt c85 1] (fun n=>(.cons (f85.l0.ok n) (.cons (f85.l1.ok n) .nil)))
def f85.w:FnW E:=fnW 85 f85.P sg_l f85.A f85.F f85.ok
def f140:Nat→Int→Option (Nat)
 | 0,_=>none
 | n+1,i1 =>
   br (decide (i1≥(0:Int))) (
    bd (xF64frombits n (9218868437227405312:Int)) fun r2 =>
    let x3:=r2
    some x3) (
    bd (xF64frombits n (18442240474082181120:Int)) fun r4 =>
    let x5:=r4
    some x5)
def f140.P:List Arg:=[qA19]
def f140.A:RAlt (Nat):=.one ⟨[qV17],[none]⟩ sg_f
def f140.F (n:Nat) (v:Int):=f140 n v
def f140.O (n:Nat):Orc:=orcOf (E:=E) [x168.w] [] n
theorem f140.ok:FnS 140 f140.P sg_i f140.A f140.F:=fnS c140 f140.O
def f140.w:FnW E:=fnW 140 f140.P sg_i f140.A f140.F f140.ok
def f112.l0 (n:Nat):Nat→Nat→Nat→Int→Option (Nat)
 | 0,_,_,_=>none
 | m+1,x1,x2,i3 =>
   br (decide (i3≥(1:Int))) (
    let x4:=(fadd .f64 4607182418800017408 (fdiv .f64 (fmul .f64 x1 x2) (FloatKind.nearest .f64 i3)))
    f112.l0 n m x1 x4 (IntKind.i64.wrap (i3 - (1:Int)))) (
    some x2)
def f112.l1 (n:Nat):Nat→Nat→Int→Option (Nat)
 | 0,_,_=>none
 | m+1,x1,i2 =>
   br (decide (i2<(8:Int))) (
    let x3:=(fmul .f64 x1 x1)
    f112.l1 n m x3 (IntKind.i64.wrap (i2+(1:Int)))) (
    some x1)
def f112:Nat→Nat→Option (Nat)
 | 0,_=>none
 | n+1,x1 =>
   br (fne .f64 x1 x1) (
    some x1) (
    br (fgt .f64 x1 4641240890982006784) (
     bd (f140 n (1:Int)) fun r2 =>
     let x3:=r2
     some x3) (
     br (flt .f64 x1 13864612927836782592) (
      some 0) (
      let x4:=(fdiv .f64 x1 4643211215818981376)
      bd (f112.l0 n n x4 4607182418800017408 (12:Int)) fun r5 =>
      let x6:=r5
      bd (f112.l1 n n x6 (0:Int)) fun r7 =>
      let x8:=r7
      some x8)))
def sg_ffi:Sig (Nat × Nat × Int) where
 pk:=fun v=>[.flt v.1,.flt v.2.1,.int v.2.2]
 up:=fun ls=>match ls with
  | [.flt a0,.flt a1,.int a2]=>some (a0,a1,a2)
  | _=>none
 ok:=by intro _ _ h;split at h <;>cases h;rfl
def sg_fi:Sig (Nat × Int) where
 pk:=fun v=>[.flt v.1,.int v.2]
 up:=fun ls=>match ls with
  | [.flt a0,.int a1]=>some (a0,a1)
  | _=>none
 ok:=by intro _ _ h;split at h <;>cases h;rfl
def f112.l0.P:AS:=⟨[(3,qS45),(4,qS45),(5,qS42)],0⟩
def f112.l0.A:Alt (Nat):=.one (.exit 0) ⟨[(4,qS45)],0⟩ sg_f
def f112.l0.F (n m:Nat) (v:Nat × Nat × Int):=f112.l0 n m v.1 v.2.1 v.2.2
def f112.l0.W (n:Nat):LpW:=.of 160 f112.l0.P sg_ffi f112.l0.A (f112.l0.F n n)
def f112.l1.P:AS:=⟨[(4,qS45),(6,qS42)],0⟩
def f112.l1.A:Alt (Nat):=.one (.exit 2) ⟨[(4,qS45)],0⟩ sg_f
def f112.l1.F (n m:Nat) (v:Nat × Int):=f112.l1 n m v.1 v.2
def f112.l1.W (n:Nat):LpW:=.of 224 f112.l1.P sg_fi f112.l1.A (f112.l1.F n n)
def f112.P:List Arg:=[qA22]
def f112.A:RAlt (Nat):=.one ⟨[qV17],[none]⟩ sg_f
def f112.F (n:Nat) (v:Nat):=f112 n v
def f112.O (n:Nat):Orc:=orcOf (E:=E) [f140.w] [f112.l0.W n,f112.l1.W n] n
theorem f112.l0.ok:∀ n,LpS 112 c112 0 n (f112.O n):=lpS f112.l0.P sg_ffi f112.l0.A f112.l0.F
theorem f112.l1.ok:∀ n,LpS 112 c112 1 n (f112.O n):=lpS f112.l1.P sg_fi f112.l1.A f112.l1.F
theorem f112.ok:FnS 112 f112.P sg_f f112.A f112.F:=fnS c112 f112.O [loopAt c112 0,loopAt c112 1] (fun n=>(.cons (f112.l0.ok n) (.cons (f112.l1.ok n) .nil)))
def f112.w:FnW E:=fnW 112 f112.P sg_f f112.A f112.F f112.ok
def f111:Nat→Nat→Option (Nat)
 | 0,_=>none
 | n+1,x1 =>
   bd ((fltToFlt .f64 x1 .f32)) fun y2 =>
   some y2
def f111.P:List Arg:=[qA22]
def f111.A:RAlt (Nat):=.one ⟨[qV16],[none]⟩ sg_f
def f111.F (n:Nat) (v:Nat):=f111 n v
def f111.O (n:Nat):Orc:=orcOf (E:=E) [] [] n
theorem f111.ok:FnS 111 f111.P sg_f f111.A f111.F:=fnS c111 f111.O
def f111.w:FnW E:=fnW 111 f111.P sg_f f111.A f111.F f111.ok
def f86:Nat→Int→Option (Nat)
 | 0,_=>none
 | n+1,i1 =>
   bd (f112 n (fmul .f64 (FloatKind.nearest .f64 i1) 4577790371455803420)) fun r2 =>
   let x3:=r2
   bd (f111 n x3) fun r4 =>
   let x5:=r4
   some x5
def f86.P:List Arg:=[qA19]
def f86.A:RAlt (Nat):=.one ⟨[qV16],[none]⟩ sg_f
def f86.F (n:Nat) (v:Int):=f86 n v
def f86.O (n:Nat):Orc:=orcOf (E:=E) [f112.w,f111.w] [] n
theorem f86.ok:FnS 86 f86.P sg_i f86.A f86.F:=fnS c86 f86.O
def f86.w:FnW E:=fnW 86 f86.P sg_i f86.A f86.F f86.ok
def f142:Nat→Option (Nat)
 | 0=>none
 | n+1 =>
   bd (xF64frombits n (9221120237041090561:Int)) fun r1 =>
   let x2:=r1
   some x2
def f142.P:List Arg:=[]
def f142.A:RAlt (Nat):=.one ⟨[qV17],[]⟩ sg_f
def f142.F (n:Nat) (v:Unit):=f142 n
def f142.O (n:Nat):Orc:=orcOf (E:=E) [x168.w] [] n
theorem f142.ok:FnS 142 f142.P sg f142.A f142.F:=fnS c142 f142.O
def f142.w:FnW E:=fnW 142 f142.P sg f142.A f142.F f142.ok
def f149.l0 (n:Nat):Nat→Bool→Nat→Nat→Nat→Int→Option (Bool × Nat × Nat)
 | 0,_,_,_,_,_=>none
 | m+1,b1,x2,x3,x4,i5 =>
   br (decide (i5≥(1:Int))) (
    let x6:=(fsub .f64 4607182418800017408 (fdiv .f64 (fmul .f64 x3 x4) (FloatKind.nearest .f64 (IntKind.i64.wrap ((IntKind.i64.wrap ((2:Int) * i5)) * (IntKind.i64.wrap ((IntKind.i64.wrap ((2:Int) * i5))+(1:Int))))))))
    f149.l0 n m b1 x2 x3 x6 (IntKind.i64.wrap (i5 - (1:Int)))) (
    some (b1,x2,x4))
def f149:Nat→Nat→Option (Nat)
 | 0,_=>none
 | n+1,x1 =>
   br (fne .f64 (fsub .f64 x1 x1) 0) (
    bd (f142 n) fun r2 =>
    let x3:=r2
    some x3) (
    br (fge .f64 x1 4841369599423283200) (
     some 0) (
     br (fle .f64 x1 14064741636278059008) (
      some 0) (
      bd ((fltToInt .f64 x1 .i64)) fun y4 =>
      let x5:=(fsub .f64 x1 (FloatKind.nearest .f64 y4))
      br (flt .f64 x5 0) (
       let x6:=(fadd .f64 x5 4607182418800017408)
       let b7:=(fge .f64 x6 4602678819172646912)
       br b7 (
        let x8:=(fsub .f64 x6 4602678819172646912)
        br (fgt .f64 x8 4598175219545276416) (
         let x9:=(fsub .f64 4602678819172646912 x8)
         let x10:=(fmul .f64 x9 4618760256179416344)
         let x11:=(fmul .f64 x10 x10)
         bd (f149.l0 n n b7 x10 x11 4607182418800017408 (8:Int)) fun r12 =>
         let b13:=r12.1
         let x14:=r12.2.1
         let x15:=r12.2.2
         br b13 (
          some (negF .f64 (fmul .f64 x14 x15))) (
          some (fmul .f64 x14 x15))) (
         let x16:=(fmul .f64 x8 4618760256179416344)
         let x17:=(fmul .f64 x16 x16)
         bd (f149.l0 n n b7 x16 x17 4607182418800017408 (8:Int)) fun r18 =>
         let b19:=r18.1
         let x20:=r18.2.1
         let x21:=r18.2.2
         br b19 (
          some (negF .f64 (fmul .f64 x20 x21))) (
          some (fmul .f64 x20 x21)))) (
        br (fgt .f64 x6 4598175219545276416) (
         let x22:=(fsub .f64 4602678819172646912 x6)
         let x23:=(fmul .f64 x22 4618760256179416344)
         let x24:=(fmul .f64 x23 x23)
         bd (f149.l0 n n b7 x23 x24 4607182418800017408 (8:Int)) fun r25 =>
         let b26:=r25.1
         let x27:=r25.2.1
         let x28:=r25.2.2
         br b26 (
          some (negF .f64 (fmul .f64 x27 x28))) (
          some (fmul .f64 x27 x28))) (
         let x29:=(fmul .f64 x6 4618760256179416344)
         let x30:=(fmul .f64 x29 x29)
         bd (f149.l0 n n b7 x29 x30 4607182418800017408 (8:Int)) fun r31 =>
         let b32:=r31.1
         let x33:=r31.2.1
         let x34:=r31.2.2
         br b32 (
          some (negF .f64 (fmul .f64 x33 x34))) (
          some (fmul .f64 x33 x34))))) (
       let b35:=(fge .f64 x5 4602678819172646912)
       br b35 (
        let x36:=(fsub .f64 x5 4602678819172646912)
        br (fgt .f64 x36 4598175219545276416) (
         let x37:=(fsub .f64 4602678819172646912 x36)
         let x38:=(fmul .f64 x37 4618760256179416344)
         let x39:=(fmul .f64 x38 x38)
         bd (f149.l0 n n b35 x38 x39 4607182418800017408 (8:Int)) fun r40 =>
         let b41:=r40.1
         let x42:=r40.2.1
         let x43:=r40.2.2
         br b41 (
          some (negF .f64 (fmul .f64 x42 x43))) (
          some (fmul .f64 x42 x43))) (
         let x44:=(fmul .f64 x36 4618760256179416344)
         let x45:=(fmul .f64 x44 x44)
         bd (f149.l0 n n b35 x44 x45 4607182418800017408 (8:Int)) fun r46 =>
         let b47:=r46.1
         let x48:=r46.2.1
         let x49:=r46.2.2
         br b47 (
          some (negF .f64 (fmul .f64 x48 x49))) (
          some (fmul .f64 x48 x49)))) (
        br (fgt .f64 x5 4598175219545276416) (
         let x50:=(fsub .f64 4602678819172646912 x5)
         let x51:=(fmul .f64 x50 4618760256179416344)
         let x52:=(fmul .f64 x51 x51)
         bd (f149.l0 n n b35 x51 x52 4607182418800017408 (8:Int)) fun r53 =>
         let b54:=r53.1
         let x55:=r53.2.1
         let x56:=r53.2.2
         br b54 (
          some (negF .f64 (fmul .f64 x55 x56))) (
          some (fmul .f64 x55 x56))) (
         let x57:=(fmul .f64 x5 4618760256179416344)
         let x58:=(fmul .f64 x57 x57)
         bd (f149.l0 n n b35 x57 x58 4607182418800017408 (8:Int)) fun r59 =>
         let b60:=r59.1
         let x61:=r59.2.1
         let x62:=r59.2.2
         br b60 (
          some (negF .f64 (fmul .f64 x61 x62))) (
          some (fmul .f64 x61 x62))))))))
def sg_bfffi:Sig (Bool × Nat × Nat × Nat × Int) where
 pk:=fun v=>[.bool v.1,.flt v.2.1,.flt v.2.2.1,.flt v.2.2.2.1,.int v.2.2.2.2]
 up:=fun ls=>match ls with
  | [.bool a0,.flt a1,.flt a2,.flt a3,.int a4]=>some (a0,a1,a2,a3,a4)
  | _=>none
 ok:=by intro _ _ h;split at h <;>cases h;rfl
def sg_bff:Sig (Bool × Nat × Nat) where
 pk:=fun v=>[.bool v.1,.flt v.2.1,.flt v.2.2]
 up:=fun ls=>match ls with
  | [.bool a0,.flt a1,.flt a2]=>some (a0,a1,a2)
  | _=>none
 ok:=by intro _ _ h;split at h <;>cases h;rfl
def f149.l0.P:AS:=⟨[(4,qS43),(5,qS45),(6,qS45),(7,qS45),(8,qS42)],0⟩
def f149.l0.A:Alt (Bool × Nat × Nat):=.one (.exit 0) ⟨[(4,qS43),(5,qS45),(7,qS45)],0⟩ sg_bff
def f149.l0.F (n m:Nat) (v:Bool × Nat × Nat × Nat × Int):=f149.l0 n m v.1 v.2.1 v.2.2.1 v.2.2.2.1 v.2.2.2.2
def f149.l0.W (n:Nat):LpW:=.of 272 f149.l0.P sg_bfffi f149.l0.A (f149.l0.F n n)
def f149.P:List Arg:=[qA22]
def f149.A:RAlt (Nat):=.one ⟨[qV17],[none]⟩ sg_f
def f149.F (n:Nat) (v:Nat):=f149 n v
def f149.O (n:Nat):Orc:=orcOf (E:=E) [f142.w] [f149.l0.W n] n
theorem f149.l0.ok:∀ n,LpS 149 c149 0 n (f149.O n):=lpS f149.l0.P sg_bfffi f149.l0.A f149.l0.F
theorem f149.ok:FnS 149 f149.P sg_f f149.A f149.F:=fnS c149 f149.O [loopAt c149 0] (fun n=>(.cons (f149.l0.ok n) .nil))
def f149.w:FnW E:=fnW 149 f149.P sg_f f149.A f149.F f149.ok
def f113:Nat→Nat→Option (Nat)
 | 0,_=>none
 | n+1,x1 =>
   bd ((fltToFlt .f32 x1 .f64)) fun y2 =>
   bd (f149 n y2) fun r3 =>
   let x4:=r3
   bd (f111 n x4) fun r5 =>
   let x6:=r5
   some x6
def f113.P:List Arg:=[qA20]
def f113.A:RAlt (Nat):=.one ⟨[qV16],[none]⟩ sg_f
def f113.F (n:Nat) (v:Nat):=f113 n v
def f113.O (n:Nat):Orc:=orcOf (E:=E) [f111.w,f149.w] [] n
theorem f113.ok:FnS 113 f113.P sg_f f113.A f113.F:=fnS c113 f113.O
def f113.w:FnW E:=fnW 113 f113.P sg_f f113.A f113.F f113.ok
def f87:Nat→Nat→Option (Nat × Nat)
 | 0,_=>none
 | n+1,x1 =>
   bd (f113 n (fdiv .f32 (fsub .f32 1065353216 x1) 1082130432)) fun r2 =>
   let x3:=r2
   bd (f113 n (fdiv .f32 x1 1082130432)) fun r4 =>
   let x5:=r4
   some (x3,x5)
def f87.P:List Arg:=[qA20]
def f87.A:RAlt (Nat × Nat):=.one ⟨[qV16,qV16],[none]⟩ sg_ff
def f87.F (n:Nat) (v:Nat):=f87 n v
def f87.O (n:Nat):Orc:=orcOf (E:=E) [f113.w] [] n
theorem f87.ok:FnS 87 f87.P sg_f f87.A f87.F:=fnS c87 f87.O
def f87.w:FnW E:=fnW 87 f87.P sg_f f87.A f87.F f87.ok
def f46.l1 (n:Nat):Nat→Nat→List T→Int→Nat→List T→Nat→List T→Nat→List T→Nat→List T→Int→Nat→Bool→Bool→Nat→Nat→Nat→Int→Int→Int→Option (Nat × List T × Int × Nat × List T × Nat × List T × Nat × List T × Int × Int)
 | 0,_,_,_,_,_,_,_,_,_,_,_,_,_,_,_,_,_,_,_,_,_=>none
 | m+1,n1,l2,i3,n4,l5,n6,l7,n8,l9,n10,l11,i12,x13,b14,b15,x16,x17,x18,i19,i20,i21 =>
   br (decide (i19<i3)) (
    br (decide (i19<(n10:Int))) (
     gd ((decide ((0≤i19)∧(i19<(n10:Int))))&&(okAt [(CK.flt .f32)] l11 (Int.toNat i19))) (
     let x22:=(fmul .f32 (fAt l11 (Int.toNat i19)) x16)
     gd (decide ((0≤i19)∧(i19<(n4:Int)))) (
     gd (okAt [(CK.flt .f32)] l5 (Int.toNat i19)) (
     gd (decide ((0≤i19)∧(i19<(n4:Int)))) (
     gd (Nat.ble ((Int.toNat i19)+1) (List.length l5)) (
     let l23:=(setN l5 (Int.toNat i19) [(T.flt .f32 (fadd .f32 (fAt l5 (Int.toNat i19)) (fmul .f32 x22 x17)))])
     gd (decide ((0≤i19)∧(i19<(n6:Int)))) (
     gd (okAt [(CK.flt .f32)] l7 (Int.toNat i19)) (
     gd (decide ((0≤i19)∧(i19<(n6:Int)))) (
     gd (Nat.ble ((Int.toNat i19)+1) (List.length l7)) (
     let l24:=(setN l7 (Int.toNat i19) [(T.flt .f32 (fadd .f32 (fAt l7 (Int.toNat i19)) (fmul .f32 x22 x18)))])
     f46.l1 n m n1 l2 i3 n4 l23 n6 l24 n8 l9 n10 l11 i12 x13 b14 b15 x16 x17 x18 (IntKind.i64.wrap (i19+(1:Int))) i20 i21)))))))))) (
     some (n1,l2,i3,n4,l5,n6,l7,n8,l9,i20,i21))) (
    some (n1,l2,i3,n4,l5,n6,l7,n8,l9,i20,i21))
termination_by structural x=>x
def f46.l0 (n:Nat):Nat→Nat→List T→Int→Nat→List T→Nat→List T→Nat→List T→Int→Int→Option (Nat × List T × Nat × List T)
 | 0,_,_,_,_,_,_,_,_,_,_,_=>none
 | m+1,n1,l2,i3,n4,l5,n6,l7,n8,l9,i10,i11 =>
   br (decide (i11<i10)) (
    gd (decide ((0≤i11)∧(i11<(n8:Int)))) (
    gd (okAt [(CK.int .i64)] l9 (Int.toNat i11)) (
    gd ((decide (((0:Int)≤(iAt l9 (Int.toNat i11)))∧((iAt l9 (Int.toNat i11))<(n1:Int))))&&(okAt [CK.lst,(CK.int .i64),(CK.flt .f32),CK.bool,CK.bool] l2 (((Int.toNat (iAt l9 (Int.toNat i11))) * 5)+0))) (
    let n12:=(nAt l2 (((Int.toNat (iAt l9 (Int.toNat i11))) * 5)+0))
    let l13:=(lAt l2 (((Int.toNat (iAt l9 (Int.toNat i11))) * 5)+0))
    let i14:=(iAt l2 ((((Int.toNat (iAt l9 (Int.toNat i11))) * 5)+0)+1))
    let x15:=(fAt l2 (((((Int.toNat (iAt l9 (Int.toNat i11))) * 5)+0)+1)+1))
    let b16:=(bAt l2 ((((((Int.toNat (iAt l9 (Int.toNat i11))) * 5)+0)+1)+1)+1))
    let b17:=(bAt l2 (((((((Int.toNat (iAt l9 (Int.toNat i11))) * 5)+0)+1)+1)+1)+1))
    bd (f86 n i14) fun r18 =>
    let x19:=r18
    bd (f87 n x15) fun r20 =>
    let x21:=r20.1
    let x22:=r20.2
    bd (f46.l1 n n n1 l2 i3 n4 l5 n6 l7 n8 l9 n12 l13 i14 x15 b16 b17 x19 x21 x22 (0:Int) i10 i11) fun r23 =>
    let n24:=r23.1
    let l25:=r23.2.1
    let i26:=r23.2.2.1
    let n27:=r23.2.2.2.1
    let l28:=r23.2.2.2.2.1
    let n29:=r23.2.2.2.2.2.1
    let l30:=r23.2.2.2.2.2.2.1
    let n31:=r23.2.2.2.2.2.2.2.1
    let l32:=r23.2.2.2.2.2.2.2.2.1
    let i33:=r23.2.2.2.2.2.2.2.2.2.1
    let i34:=r23.2.2.2.2.2.2.2.2.2.2
    f46.l0 n m n24 l25 i26 n27 l28 n29 l30 n31 l32 i33 (IntKind.i64.wrap (i34+(1:Int))))))) (
    some (n4,l5,n6,l7))
def f46:Nat→Nat→List T→Int→Option (Nat × List T × Nat × List T)
 | 0,_,_,_=>none
 | n+1,n1,l2,i3 =>
   gd (decide ((0≤i3)∧(i3≤(2147483648:Int)))) (
   let n4:=(Int.toNat i3)
   let l5:=(reps (Int.toNat i3) [(T.flt .f32 0)])
   gd (decide ((0≤i3)∧(i3≤(2147483648:Int)))) (
   let n6:=(Int.toNat i3)
   let l7:=(reps (Int.toNat i3) [(T.flt .f32 0)])
   bd (f85 n n1 l2) fun r8 =>
   let n9:=r8.1
   let l10:=r8.2
   bd (f46.l0 n n n1 l2 i3 n4 l5 n6 l7 n9 l10 (n9:Int) (0:Int)) fun r11 =>
   let n12:=r11.1
   let l13:=r11.2.1
   let n14:=r11.2.2.1
   let l15:=r11.2.2.2
   some (n12,l13,n14,l15)))
def sg_lillllifbbfffiii:Sig (Nat × List T × Int × Nat × List T × Nat × List T × Nat × List T × Nat × List T × Int × Nat × Bool × Bool × Nat × Nat × Nat × Int × Int × Int) where
 pk:=fun v=>[.lst v.1 v.2.1,.int v.2.2.1,.lst v.2.2.2.1 v.2.2.2.2.1,.lst v.2.2.2.2.2.1 v.2.2.2.2.2.2.1,.lst v.2.2.2.2.2.2.2.1 v.2.2.2.2.2.2.2.2.1,.lst v.2.2.2.2.2.2.2.2.2.1 v.2.2.2.2.2.2.2.2.2.2.1,.int v.2.2.2.2.2.2.2.2.2.2.2.1,.flt v.2.2.2.2.2.2.2.2.2.2.2.2.1,.bool v.2.2.2.2.2.2.2.2.2.2.2.2.2.1,.bool v.2.2.2.2.2.2.2.2.2.2.2.2.2.2.1,.flt v.2.2.2.2.2.2.2.2.2.2.2.2.2.2.2.1,.flt v.2.2.2.2.2.2.2.2.2.2.2.2.2.2.2.2.1,.flt v.2.2.2.2.2.2.2.2.2.2.2.2.2.2.2.2.2.1,.int v.2.2.2.2.2.2.2.2.2.2.2.2.2.2.2.2.2.2.1,.int v.2.2.2.2.2.2.2.2.2.2.2.2.2.2.2.2.2.2.2.1,.int v.2.2.2.2.2.2.2.2.2.2.2.2.2.2.2.2.2.2.2.2]
 up:=fun ls=>match ls with
  | [.lst a0 a1,.int a2,.lst a3 a4,.lst a5 a6,.lst a7 a8,.lst a9 a10,.int a11,.flt a12,.bool a13,.bool a14,.flt a15,.flt a16,.flt a17,.int a18,.int a19,.int a20]=>some (a0,a1,a2,a3,a4,a5,a6,a7,a8,a9,a10,a11,a12,a13,a14,a15,a16,a17,a18,a19,a20)
  | _=>none
 ok:=by intro _ _ h;split at h <;>cases h;rfl
def sg_lilllii:Sig (Nat × List T × Int × Nat × List T × Nat × List T × Nat × List T × Int × Int) where
 pk:=fun v=>[.lst v.1 v.2.1,.int v.2.2.1,.lst v.2.2.2.1 v.2.2.2.2.1,.lst v.2.2.2.2.2.1 v.2.2.2.2.2.2.1,.lst v.2.2.2.2.2.2.2.1 v.2.2.2.2.2.2.2.2.1,.int v.2.2.2.2.2.2.2.2.2.1,.int v.2.2.2.2.2.2.2.2.2.2]
 up:=fun ls=>match ls with
  | [.lst a0 a1,.int a2,.lst a3 a4,.lst a5 a6,.lst a7 a8,.int a9,.int a10]=>some (a0,a1,a2,a3,a4,a5,a6,a7,a8,a9,a10)
  | _=>none
 ok:=by intro _ _ h;split at h <;>cases h;rfl
def f46.l1.P:AS:=⟨[(0,qS33),(1,qS42),(6,qS41),(7,qS41),(8,qS41),(10,.box [.sl .shr [.leaf],.leaf,.leaf,.leaf,.leaf] [.lst 0 [],.int .i64 0,.flt .f32 0,.bool false,.bool false] [] 0),(11,qS44),(12,qS44),(13,qS44),(14,qS42),(23,qS42),(24,qS42)],0⟩
def f46.l1.A:Alt (Nat × List T × Int × Nat × List T × Nat × List T × Nat × List T × Int × Int):=.one (.exit 2) ⟨[(0,qS33),(1,qS42),(6,qS41),(7,qS41),(8,qS41),(23,qS42),(24,qS42),(80,.dead)],0⟩ sg_lilllii
def f46.l1.F (n m:Nat) (v:Nat × List T × Int × Nat × List T × Nat × List T × Nat × List T × Nat × List T × Int × Nat × Bool × Bool × Nat × Nat × Nat × Int × Int × Int):=f46.l1 n m v.1 v.2.1 v.2.2.1 v.2.2.2.1 v.2.2.2.2.1 v.2.2.2.2.2.1 v.2.2.2.2.2.2.1 v.2.2.2.2.2.2.2.1 v.2.2.2.2.2.2.2.2.1 v.2.2.2.2.2.2.2.2.2.1 v.2.2.2.2.2.2.2.2.2.2.1 v.2.2.2.2.2.2.2.2.2.2.2.1 v.2.2.2.2.2.2.2.2.2.2.2.2.1 v.2.2.2.2.2.2.2.2.2.2.2.2.2.1 v.2.2.2.2.2.2.2.2.2.2.2.2.2.2.1 v.2.2.2.2.2.2.2.2.2.2.2.2.2.2.2.1 v.2.2.2.2.2.2.2.2.2.2.2.2.2.2.2.2.1 v.2.2.2.2.2.2.2.2.2.2.2.2.2.2.2.2.2.1 v.2.2.2.2.2.2.2.2.2.2.2.2.2.2.2.2.2.2.1 v.2.2.2.2.2.2.2.2.2.2.2.2.2.2.2.2.2.2.2.1 v.2.2.2.2.2.2.2.2.2.2.2.2.2.2.2.2.2.2.2.2
def f46.l1.W (n:Nat):LpW:=.of 176 f46.l1.P sg_lillllifbbfffiii f46.l1.A (f46.l1.F n n)
def f46.l0.P:AS:=⟨[(0,qS33),(1,qS42),(6,qS41),(7,qS41),(8,qS41),(23,qS42),(24,qS42)],0⟩
def f46.l0.A:Alt (Nat × List T × Nat × List T):=.one (.exit 0) ⟨[(6,qS41),(7,qS41)],0⟩ sg_ll
def f46.l0.F (n m:Nat) (v:Nat × List T × Int × Nat × List T × Nat × List T × Nat × List T × Int × Int):=f46.l0 n m v.1 v.2.1 v.2.2.1 v.2.2.2.1 v.2.2.2.2.1 v.2.2.2.2.2.1 v.2.2.2.2.2.2.1 v.2.2.2.2.2.2.2.1 v.2.2.2.2.2.2.2.2.1 v.2.2.2.2.2.2.2.2.2.1 v.2.2.2.2.2.2.2.2.2.2
def f46.l0.W (n:Nat):LpW:=.of 80 f46.l0.P sg_lilllii f46.l0.A (f46.l0.F n n)
def f46.P:List Arg:=[qA28,qA19]
def f46.A:RAlt (Nat × List T × Nat × List T):=.one ⟨[qV13,qV13],[none,none]⟩ sg_ll
def f46.F (n:Nat) (v:Nat × List T × Int):=f46 n v.1 v.2.1 v.2.2
def f46.O (n:Nat):Orc:=orcOf (E:=E) [f85.w,f86.w,f87.w] [f46.l1.W n,f46.l0.W n] n
theorem f46.l1.ok:∀ n,LpS 46 c46 1 n (f46.O n):=lpS f46.l1.P sg_lillllifbbfffiii f46.l1.A f46.l1.F
theorem f46.l0.ok:∀ n,LpS 46 c46 0 n (f46.O n):=lpS f46.l0.P sg_lilllii f46.l0.A f46.l0.F [loopAt c46 1] (fun n=>(.cons (f46.l1.ok n) .nil))
theorem f46.ok:FnS 46 f46.P sg_li f46.A f46.F:=fnS c46 f46.O [loopAt c46 0] (fun n=>(.cons (f46.l0.ok n) .nil))
def f46.w:FnW E:=fnW 46 f46.P sg_li f46.A f46.F f46.ok
def f22.l1 (n:Nat):Nat→Int→Int→Nat→List T→Nat→List T→Nat→List T→Nat→List T→Nat→List T→Int→Option (Nat × List T × Nat × List T)
 | 0,_,_,_,_,_,_,_,_,_,_,_,_,_=>none
 | m+1,i1,i2,n3,l4,n5,l6,n7,l8,n9,l10,n11,l12,i13 =>
   br (decide (i13<i1)) (
    bd (f55 n i1 (IntKind.i64.wrap (i13+i2))) fun r14 =>
    let i15:=r14
    bd (f22.l2 n n i1 i2 n3 l4 n5 l6 n7 l8 n9 l10 n11 l12 i13 i15 0 (reps 0 [(T.lst 0 []),(T.int .i64 (0:Int)),(T.flt .f32 0),(T.bool false),(T.bool false)]) (n5:Int) (0:Int)) fun r16 =>
    let i17:=r16.1
    let i18:=r16.2.1
    let n19:=r16.2.2.1
    let l20:=r16.2.2.2.1
    let n21:=r16.2.2.2.2.1
    let l22:=r16.2.2.2.2.2.1
    let n23:=r16.2.2.2.2.2.2.1
    let l24:=r16.2.2.2.2.2.2.2.1
    let n25:=r16.2.2.2.2.2.2.2.2.1
    let l26:=r16.2.2.2.2.2.2.2.2.2.1
    let n27:=r16.2.2.2.2.2.2.2.2.2.2.1
    let l28:=r16.2.2.2.2.2.2.2.2.2.2.2.1
    let i29:=r16.2.2.2.2.2.2.2.2.2.2.2.2.1
    let i30:=r16.2.2.2.2.2.2.2.2.2.2.2.2.2.1
    let n31:=r16.2.2.2.2.2.2.2.2.2.2.2.2.2.2.1
    let l32:=r16.2.2.2.2.2.2.2.2.2.2.2.2.2.2.2
    bd (f46 n n31 l32 (IntKind.i64.wrap (i30 - i29))) fun r33 =>
    let n34:=r33.1
    let l35:=r33.2.1
    let n36:=r33.2.2.1
    let l37:=r33.2.2.2
    gd (Nat.ble (n25+n34) 2147483648) (
    let n38:=(n25+n34)
    let l39:=(l26++l35)
    gd (Nat.ble (n27+n36) 2147483648) (
    let n40:=(n27+n36)
    let l41:=(l28++l37)
    f22.l1 n m i17 i18 n19 l20 n21 l22 n23 l24 n38 l39 n40 l41 (IntKind.i64.wrap (i29+i18))))) (
    some (n9,l10,n11,l12))
termination_by structural x=>x
def f22:Nat→Nat→List T→Nat→List T→Int→Int→Option (Nat × List T × Nat × List T × Bool)
 | 0,_,_,_,_,_,_=>none
 | n+1,n1,l2,n3,l4,i5,i6 =>
   bd (f37 n n1 l2 n3 l4) fun r7 =>
   let b8:=r7
   br (!b8) (
    some (0,[],0,[],false)) (
    bd (f43 n i5) fun r9 =>
    let b10:=r9
    br (!b10) (
     some (0,[],0,[],false)) (
     bd (f38 n i6 (1:Int) (256:Int)) fun r11 =>
     let b12:=r11
     br (!b12) (
      some (0,[],0,[],false)) (
      bd (f22.l0 n n i5 i6 n1 l2 n3 l4 0 (reps 0 [(T.lst 0 [])]) (n3:Int) (0:Int)) fun r13 =>
      let i14:=r13.1
      let i15:=r13.2.1
      let n16:=r13.2.2.1
      let l17:=r13.2.2.2.1
      let n18:=r13.2.2.2.2.1
      let l19:=r13.2.2.2.2.2.1
      let n20:=r13.2.2.2.2.2.2.1
      let l21:=r13.2.2.2.2.2.2.2
      bd (f22.l1 n n i14 i15 n16 l17 n18 l19 n20 l21 0 (reps 0 [(T.flt .f32 0)]) 0 (reps 0 [(T.flt .f32 0)]) (0:Int)) fun r22 =>
      let n23:=r22.1
      let l24:=r22.2.1
      let n25:=r22.2.2.1
      let l26:=r22.2.2.2
      some (n23,l24,n25,l26,true))))
def sg_llb:Sig (Nat × List T × Nat × List T × Bool) where
 pk:=fun v=>[.lst v.1 v.2.1,.lst v.2.2.1 v.2.2.2.1,.bool v.2.2.2.2]
 up:=fun ls=>match ls with
  | [.lst a0 a1,.lst a2 a3,.bool a4]=>some (a0,a1,a2,a3,a4)
  | _=>none
 ok:=by intro _ _ h;split at h <;>cases h;rfl
def sg_iilllii:Sig (Int × Int × Nat × List T × Nat × List T × Nat × List T × Int × Int) where
 pk:=fun v=>[.int v.1,.int v.2.1,.lst v.2.2.1 v.2.2.2.1,.lst v.2.2.2.2.1 v.2.2.2.2.2.1,.lst v.2.2.2.2.2.2.1 v.2.2.2.2.2.2.2.1,.int v.2.2.2.2.2.2.2.2.1,.int v.2.2.2.2.2.2.2.2.2]
 up:=fun ls=>match ls with
  | [.int a0,.int a1,.lst a2 a3,.lst a4 a5,.lst a6 a7,.int a8,.int a9]=>some (a0,a1,a2,a3,a4,a5,a6,a7,a8,a9)
  | _=>none
 ok:=by intro _ _ h;split at h <;>cases h;rfl
def sg_iillllliilii:Sig (Int × Int × Nat × List T × Nat × List T × Nat × List T × Nat × List T × Nat × List T × Int × Int × Nat × List T × Int × Int) where
 pk:=fun v=>[.int v.1,.int v.2.1,.lst v.2.2.1 v.2.2.2.1,.lst v.2.2.2.2.1 v.2.2.2.2.2.1,.lst v.2.2.2.2.2.2.1 v.2.2.2.2.2.2.2.1,.lst v.2.2.2.2.2.2.2.2.1 v.2.2.2.2.2.2.2.2.2.1,.lst v.2.2.2.2.2.2.2.2.2.2.1 v.2.2.2.2.2.2.2.2.2.2.2.1,.int v.2.2.2.2.2.2.2.2.2.2.2.2.1,.int v.2.2.2.2.2.2.2.2.2.2.2.2.2.1,.lst v.2.2.2.2.2.2.2.2.2.2.2.2.2.2.1 v.2.2.2.2.2.2.2.2.2.2.2.2.2.2.2.1,.int v.2.2.2.2.2.2.2.2.2.2.2.2.2.2.2.2.1,.int v.2.2.2.2.2.2.2.2.2.2.2.2.2.2.2.2.2]
 up:=fun ls=>match ls with
  | [.int a0,.int a1,.lst a2 a3,.lst a4 a5,.lst a6 a7,.lst a8 a9,.lst a10 a11,.int a12,.int a13,.lst a14 a15,.int a16,.int a17]=>some (a0,a1,a2,a3,a4,a5,a6,a7,a8,a9,a10,a11,a12,a13,a14,a15,a16,a17)
  | _=>none
 ok:=by intro _ _ h;split at h <;>cases h;rfl
def sg_iillllliil:Sig (Int × Int × Nat × List T × Nat × List T × Nat × List T × Nat × List T × Nat × List T × Int × Int × Nat × List T) where
 pk:=fun v=>[.int v.1,.int v.2.1,.lst v.2.2.1 v.2.2.2.1,.lst v.2.2.2.2.1 v.2.2.2.2.2.1,.lst v.2.2.2.2.2.2.1 v.2.2.2.2.2.2.2.1,.lst v.2.2.2.2.2.2.2.2.1 v.2.2.2.2.2.2.2.2.2.1,.lst v.2.2.2.2.2.2.2.2.2.2.1 v.2.2.2.2.2.2.2.2.2.2.2.1,.int v.2.2.2.2.2.2.2.2.2.2.2.2.1,.int v.2.2.2.2.2.2.2.2.2.2.2.2.2.1,.lst v.2.2.2.2.2.2.2.2.2.2.2.2.2.2.1 v.2.2.2.2.2.2.2.2.2.2.2.2.2.2.2]
 up:=fun ls=>match ls with
  | [.int a0,.int a1,.lst a2 a3,.lst a4 a5,.lst a6 a7,.lst a8 a9,.lst a10 a11,.int a12,.int a13,.lst a14 a15]=>some (a0,a1,a2,a3,a4,a5,a6,a7,a8,a9,a10,a11,a12,a13,a14,a15)
  | _=>none
 ok:=by intro _ _ h;split at h <;>cases h;rfl
def sg_iillllli:Sig (Int × Int × Nat × List T × Nat × List T × Nat × List T × Nat × List T × Nat × List T × Int) where
 pk:=fun v=>[.int v.1,.int v.2.1,.lst v.2.2.1 v.2.2.2.1,.lst v.2.2.2.2.1 v.2.2.2.2.2.1,.lst v.2.2.2.2.2.2.1 v.2.2.2.2.2.2.2.1,.lst v.2.2.2.2.2.2.2.2.1 v.2.2.2.2.2.2.2.2.2.1,.lst v.2.2.2.2.2.2.2.2.2.2.1 v.2.2.2.2.2.2.2.2.2.2.2.1,.int v.2.2.2.2.2.2.2.2.2.2.2.2]
 up:=fun ls=>match ls with
  | [.int a0,.int a1,.lst a2 a3,.lst a4 a5,.lst a6 a7,.lst a8 a9,.lst a10 a11,.int a12]=>some (a0,a1,a2,a3,a4,a5,a6,a7,a8,a9,a10,a11,a12)
  | _=>none
 ok:=by intro _ _ h;split at h <;>cases h;rfl
def f22.l0.P:AS:=⟨[(1,qS42),(2,qS42),(3,.box [.sl .shr [.leaf,.leaf,.sl .shr [.leaf]],.sl .shr [.sl .shr [.leaf,.leaf,.sl .shr [.leaf]],.leaf,.leaf,.leaf,.leaf]] [.lst 0 [],.lst 0 []] [] 0),(9,qS38),(37,qS42),(38,qS42)],0⟩
def f22.l0.A:Alt (Int × Int × Nat × List T × Nat × List T × Nat × List T):=.one (.exit 0) ⟨[(1,qS42),(2,qS42),(3,.box [.sl .shr [.leaf,.leaf,.sl .shr [.leaf]],.sl .shr [.sl .shr [.leaf,.leaf,.sl .shr [.leaf]],.leaf,.leaf,.leaf,.leaf]] [.lst 0 [],.lst 0 []] [] 0),(9,qS38),(106,.dead)],0⟩ sg_iilll
def f22.l0.F (n m:Nat) (v:Int × Int × Nat × List T × Nat × List T × Nat × List T × Int × Int):=f22.l0 n m v.1 v.2.1 v.2.2.1 v.2.2.2.1 v.2.2.2.2.1 v.2.2.2.2.2.1 v.2.2.2.2.2.2.1 v.2.2.2.2.2.2.2.1 v.2.2.2.2.2.2.2.2.1 v.2.2.2.2.2.2.2.2.2
def f22.l0.W (n:Nat):LpW:=.of 80 f22.l0.P sg_iilllii f22.l0.A (f22.l0.F n n)
def f22.l2.P:AS:=⟨[(1,qS42),(2,qS42),(3,.box [.sl .shr [.leaf,.leaf,.sl .shr [.leaf]],.sl .shr [.sl .shr [.leaf,.leaf,.sl .shr [.leaf]],.leaf,.leaf,.leaf,.leaf]] [.lst 0 [],.lst 0 []] [] 0),(9,qS38),(11,qS41),(12,qS41),(13,qS42),(14,qS42),(15,qS34),(68,qS42),(69,qS42)],0⟩
def f22.l2.A:Alt (Int × Int × Nat × List T × Nat × List T × Nat × List T × Nat × List T × Nat × List T × Int × Int × Nat × List T):=.one (.exit 4) ⟨[(1,qS42),(2,qS42),(3,.box [.sl .shr [.leaf,.leaf,.sl .shr [.leaf]],.sl .shr [.sl .shr [.leaf,.leaf,.sl .shr [.leaf]],.leaf,.leaf,.leaf,.leaf]] [.lst 0 [],.lst 0 []] [] 0),(9,qS38),(11,qS41),(12,qS41),(13,qS42),(14,qS42),(15,qS34),(106,.dead)],0⟩ sg_iillllliil
def f22.l2.F (n m:Nat) (v:Int × Int × Nat × List T × Nat × List T × Nat × List T × Nat × List T × Nat × List T × Int × Int × Nat × List T × Int × Int):=f22.l2 n m v.1 v.2.1 v.2.2.1 v.2.2.2.1 v.2.2.2.2.1 v.2.2.2.2.2.1 v.2.2.2.2.2.2.1 v.2.2.2.2.2.2.2.1 v.2.2.2.2.2.2.2.2.1 v.2.2.2.2.2.2.2.2.2.1 v.2.2.2.2.2.2.2.2.2.2.1 v.2.2.2.2.2.2.2.2.2.2.2.1 v.2.2.2.2.2.2.2.2.2.2.2.2.1 v.2.2.2.2.2.2.2.2.2.2.2.2.2.1 v.2.2.2.2.2.2.2.2.2.2.2.2.2.2.1 v.2.2.2.2.2.2.2.2.2.2.2.2.2.2.2.1 v.2.2.2.2.2.2.2.2.2.2.2.2.2.2.2.2.1 v.2.2.2.2.2.2.2.2.2.2.2.2.2.2.2.2.2
def f22.l2.W (n:Nat):LpW:=.of 272 f22.l2.P sg_iillllliilii f22.l2.A (f22.l2.F n n)
def f22.l1.P:AS:=⟨[(1,qS42),(2,qS42),(3,.box [.sl .shr [.leaf,.leaf,.sl .shr [.leaf]],.sl .shr [.sl .shr [.leaf,.leaf,.sl .shr [.leaf]],.leaf,.leaf,.leaf,.leaf]] [.lst 0 [],.lst 0 []] [] 0),(9,qS38),(11,qS41),(12,qS41),(13,qS42)],0⟩
def f22.l1.A:Alt (Nat × List T × Nat × List T):=.one (.exit 2) ⟨[(11,qS41),(12,qS41)],0⟩ sg_ll
def f22.l1.F (n m:Nat) (v:Int × Int × Nat × List T × Nat × List T × Nat × List T × Nat × List T × Nat × List T × Int):=f22.l1 n m v.1 v.2.1 v.2.2.1 v.2.2.2.1 v.2.2.2.2.1 v.2.2.2.2.2.1 v.2.2.2.2.2.2.1 v.2.2.2.2.2.2.2.1 v.2.2.2.2.2.2.2.2.1 v.2.2.2.2.2.2.2.2.2.1 v.2.2.2.2.2.2.2.2.2.2.1 v.2.2.2.2.2.2.2.2.2.2.2.1 v.2.2.2.2.2.2.2.2.2.2.2.2
def f22.l1.W (n:Nat):LpW:=.of 192 f22.l1.P sg_iillllli f22.l1.A (f22.l1.F n n)
def f22.P:List Arg:=[qA27,qA19,qA19]
def f22.A:RAlt (Nat × List T × Nat × List T × Bool):=.one ⟨[qV13,qV13,qV15],[none,none,none]⟩ sg_llb
def f22.F (n:Nat) (v:Nat × List T × Nat × List T × Int × Int):=f22 n v.1 v.2.1 v.2.2.1 v.2.2.2.1 v.2.2.2.2.1 v.2.2.2.2.2
end Go.Proofs.YtokonabdnlckdaaGreat.D
end
