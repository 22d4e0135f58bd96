/- FnExactRepeatClip holds: for every input the law returns true, and its arguments read as before. -/
import Derived.Test.YtdobhipbgpiceaaChecked
import Derived.KernelRfl
import Derived.Test.YtdobhipbgpiceaaRows
import Derived.WalkKit
import Derived.ProofKit
import Derived.OpenShut
import Derived.ShutString
import Derived.ChangeOld
import Derived.Below
import Derived.SizedLaws
import Derived.Test.YtdobhipbgpiceaaKernC
set_option linter.all false
set_option linter.unusedVariables false
section
namespace Go.Desk
open Go
def p2 (e:Int):Rat:=(2:Rat) ^ e
theorem p2_pos (e:Int):0<p2 e:=Rat.zpow_pos (by decide)
theorem p2_add (a b:Int):p2 (a+b)=p2 a * p2 b:=Rat.zpow_add (by decide) a b
theorem p2_zero:p2 0=1:=Rat.zpow_zero _
theorem p2_nat (n:Nat):p2 (n:Int)=((2 ^ n:Nat):Rat):=by
 induction n with
 | zero=>exact p2_zero
 | succ n ih =>
   rw[show ((n+1:Nat):Int)=(n:Int)+1 by omega,p2_add,ih,Nat.pow_succ,Rat.natCast_mul,show p2 1=(2:Rat) from Rat.zpow_one _]
   rfl
theorem p2_ge_one (n:Nat):1≤p2 (n:Int):=by
 rw[p2_nat]
 have:1≤2 ^ n:=Nat.one_le_two_pow
 exact_mod_cast this
theorem p2_le {a b:Int} (h:a≤b):p2 a≤p2 b:=by
 obtain ⟨n,hn⟩:=Int.eq_ofNat_of_zero_le (show 0≤b - a by omega)
 rw[show b=a+(n:Int) by omega,p2_add]
 have:=Rat.mul_le_mul_of_nonneg_left (p2_ge_one n) (Rat.le_of_lt (p2_pos a))
 rwa [Rat.mul_one] at this
theorem p2_lt {a b:Int} (h:a<b):p2 a<p2 b:=by
 have h1:p2 (a+1)≤p2 b:=p2_le (by omega)
 have h2:p2 (a+1)=p2 a * 2:=by rw[p2_add,show p2 1=(2:Rat) from Rat.zpow_one _]
 have h3:=p2_pos a
 grind
def mv (m:Nat) (e:Int):Rat:=(m:Rat) * p2 e
theorem mv_nonneg (m:Nat) (e:Int):0≤mv m e:=Rat.mul_nonneg (by exact_mod_cast Nat.zero_le m) (Rat.le_of_lt (p2_pos e))
theorem mv_zero (e:Int):mv 0 e=0:=by unfold mv;rw[show ((0:Nat):Rat)=0 from rfl,Rat.zero_mul]
theorem mv_shift (m k:Nat) (e:Int):mv (m * 2 ^ k) e=mv m (e+k):=by
 unfold mv
 rw[Rat.natCast_mul,p2_add,p2_nat]
 grind
theorem mv_le {m n:Nat} {e:Int}:mv m e≤mv n e↔m≤n:=by
 unfold mv
 constructor
 ·intro h
  have:=Rat.le_of_mul_le_mul_right h (p2_pos e)
  exact_mod_cast this
 ·intro h
  exact Rat.mul_le_mul_of_nonneg_right (by exact_mod_cast h) (Rat.le_of_lt (p2_pos e))
theorem mv_lt {m n:Nat} {e:Int}:mv m e<mv n e↔m<n:=by
 rw[← Rat.not_le,mv_le];omega
theorem mv_one (e:Int):mv 1 e=p2 e:=by unfold mv;rw[show ((1:Nat):Rat)=1 from rfl,Rat.one_mul]
theorem mv_pow (k:Nat) (e:Int):mv (2 ^ k) e=p2 (e+k):=by
 have:=mv_shift 1 k e
 rw[Nat.one_mul] at this
 rw[this,mv_one]
theorem cut_bounds (s:Bool) (n d B:Nat):(n≤B * 2 ^ d→Ieee.Toward.cut .even s n d≤B)∧(B * 2 ^ d≤n→B≤Ieee.Toward.cut .even s n d):=by
 unfold Ieee.Toward.cut
 simp only[Nat.shiftLeft_eq,Nat.one_mul]
 rcases Nat.lt_or_ge (n.log2+2) d with hd | hd
 ·rw[Nat.min_eq_right (Nat.le_of_lt hd)]
  have h1:n<2 ^ (n.log2+1):=Nat.lt_log2_self
  have h2:2 ^ (n.log2+2)=2 * 2 ^ (n.log2+1):=by rw[Nat.pow_succ];omega
  have h3:n<2 ^ (n.log2+2):=by omega
  rw[Nat.div_eq_of_lt h3,Nat.mod_eq_of_lt h3]
  have hm:(decide (2 ^ (n.log2+2)<2 * n)||(2 ^ (n.log2+2)==2 * n&&(0:Nat) % 2==1))=false:=by
   simp;omega
  rw[hm]
  constructor
  ·intro _;exact Nat.zero_le _
  ·intro h
   have h4:2 ^ (n.log2+2)≤2 ^ d:=Nat.pow_le_pow_right (by decide) (by omega)
   rcases Nat.eq_zero_or_pos B with rfl | hB
   ·exact Nat.zero_le _
   ·have:2 ^ d≤B * 2 ^ d:=Nat.le_mul_of_pos_left _ hB
    omega
 ·rw[Nat.min_eq_left hd]
  have hg:0<2 ^ d:=Nat.two_pow_pos d
  generalize 2 ^ d=g at hg ⊢
  have hn:g * (n / g)+n % g=n:=Nat.div_add_mod n g
  have hr:n % g<g:=Nat.mod_lt _ hg
  generalize hq:n / g=q at hn ⊢
  generalize hrr:n % g=r at hn hr ⊢
  constructor
  ·intro h
   cases hm:(decide (g<2 * r)||(g==2 * r&&q % 2==1))
   ·simp only[Bool.toNat_false,Nat.add_zero]
    have:g * q≤B * g:=by omega
    rw[Nat.mul_comm] at this
    exact Nat.le_of_mul_le_mul_right this hg
   ·simp only[Bool.toNat_true]
    have hr0:0<r:=by
     simp only[Bool.or_eq_true,decide_eq_true_eq,Bool.and_eq_true,beq_iff_eq] at hm
     omega
    have:g * q<g * B:=by rw[Nat.mul_comm g B];omega
    exact Nat.lt_of_mul_lt_mul_left this
  ·intro h
   have:B≤q:=by
    rw[← hq]
    exact (Nat.le_div_iff_mul_le hg).2 h
   omega
def sg (s:Bool) (v:Rat):Rat:=if s then -v else v
def fval (k:FloatKind) (x:Nat):Rat:=match k.decode x with
 | .number s m e=>sg s (mv m e)
 | _=>0
def Rep0 (k:FloatKind) (B:Rat):Prop:=∃ M P,M≤2 * k.format.binade∧k.format.leastPlace≤P∧B=mv M P
def topE:FloatKind→Int
 | .f32=>128
 | .f64=>1024
theorem fmt (k:FloatKind):∃ K:Nat,2≤K∧k.format.infRung=K * k.format.binade∧topE k=k.format.leastPlace+(k.format.fractionBits:Int)+(K:Int) - 1∧k.format.infRung<k.format.signWeight∧k.format.binade=2 ^ k.format.fractionBits:=by
 cases k
 ·exact ⟨255,by decide,by decide,by decide,by decide,rfl⟩
 ·exact ⟨2047,by decide,by decide,by decide,by decide,rfl⟩
theorem word_neg {f:Ieee.Format} {s:Bool} {r:Nat} (h:r<f.signWeight):(f.word s r / f.signWeight % 2==1)=s:=by
 have hp:0<f.signWeight:=by omega
 unfold Ieee.Format.word
 cases s
 ·simp[Nat.div_eq_of_lt h]
 ·simp only[if_true]
  rw[Nat.add_div_left _ hp,Nat.div_eq_of_lt h];rfl
theorem word_rung {f:Ieee.Format} {s:Bool} {r:Nat} (h:r<f.signWeight):f.word s r % f.signWeight=r:=by
 unfold Ieee.Format.word
 split
 ·rw[Nat.add_mod_left,Nat.mod_eq_of_lt h]
 ·rw[Nat.mod_eq_of_lt h]
theorem read_rung (k:FloatKind) (s:Bool) {j kept:Nat} (h1:kept≤2 * k.format.binade) (h2:0<j→k.format.binade≤kept) (h3:j * k.format.binade+kept<k.format.infRung) :
  ∃ m e,k.format.read (k.format.word s (j * k.format.binade+kept)) = .number s m e∧mv m e=mv kept (k.format.leastPlace+(j:Int))∧m≤2 * k.format.binade∧k.format.leastPlace≤e:=by
 obtain ⟨K,-,-,-,hw,hb⟩:=fmt k
 have hbp:0<k.format.binade:=by rw[hb];exact Nat.two_pow_pos _
 have hr:j * k.format.binade+kept<k.format.signWeight:=by omega
 unfold Ieee.Format.read
 simp only[word_neg hr,word_rung hr]
 generalize hbb:k.format.binade=b at *
 by_cases c1:j * b+kept<b
 ·rw[if_pos c1]
  have hj:j=0:=by
   rcases Nat.eq_zero_or_pos j with h | h
   ·exact h
   ·have:=Nat.le_mul_of_pos_left b h;omega
  subst hj
  refine ⟨_,_,rfl,?_,by omega,Int.le_refl _⟩
  rw[Nat.zero_mul,Nat.zero_add];simp
 ·rw[if_neg c1,if_pos h3]
  rcases Nat.lt_or_ge kept b with hk | hk
  ·rcases Nat.eq_zero_or_pos j with h | h
   ·subst h;omega
   ·have:=h2 h;omega
  ·rcases Nat.lt_or_ge kept (2 * b) with hk2 | hk2
   ·have e1:(j * b+kept) / b=j+1:=by
     rw[show j * b+kept=(kept - b)+b * (j+1) by rw[Nat.mul_add,Nat.mul_comm b j];omega,Nat.add_mul_div_left _ _ hbp,Nat.div_eq_of_lt (by omega)];omega
    have e2:(j * b+kept) % b=kept - b:=by
     rw[show j * b+kept=(kept - b)+b * (j+1) by rw[Nat.mul_add,Nat.mul_comm b j];omega,Nat.add_mul_mod_self_left,Nat.mod_eq_of_lt (by omega)]
    refine ⟨_,_,rfl,?_,by rw[e2];omega,by rw[e1];omega⟩
    rw[e1,e2,show b+(kept - b)=kept by omega,Nat.add_sub_cancel]
   ·have hk3:kept=2 * b:=by omega
    subst hk3
    have e1:(j * b+2 * b) / b=j+2:=by rw[← Nat.add_mul,Nat.mul_div_cancel _ hbp]
    have e2:(j * b+2 * b) % b=0:=by rw[← Nat.add_mul,Nat.mul_mod_left]
    refine ⟨_,_,rfl,?_,by rw[e2];omega,by rw[e1];omega⟩
    rw[e1,e2,Nat.add_zero,show (j+2 - 1:Nat)=j+1 by omega,show 2 * b=b * 2 ^ 1 by omega,mv_shift]
    congr 1;omega
theorem round_mag (k:FloatKind) (s:Bool) (m:Nat) (e:Int) {B0:Rat} (hB0:Rep0 k B0) (hv:mv m e≤B0) (hf:B0<p2 (topE k)) :
  ∃ m' e',k.format.read (k.format.nearest s m e) = .number s m' e'∧m'≤2 * k.format.binade∧k.format.leastPlace≤e'∧∀ B,Rep0 k B→(mv m e≤B→mv m' e'≤B)∧(B≤mv m e→B≤mv m' e'):=by
 obtain ⟨K,hK,hinf,htop,hw,hb⟩:=fmt k
 have hbp:0<k.format.binade:=by rw[hb];exact Nat.two_pow_pos _
 unfold Ieee.Format.nearest
 by_cases hm:m=0
 ·subst hm
  rw[if_pos rfl]
  have h3:0 * k.format.binade+0<k.format.infRung:=by rw[hinf,Nat.zero_mul,Nat.zero_add];exact Nat.mul_pos (by omega) hbp
  obtain ⟨m',e',r1,r2,r3,r4⟩:=read_rung k s (j:=0) (kept:=0) (Nat.zero_le _) (by omega) h3
  rw[Nat.zero_mul] at r1
  refine ⟨m',e',r1,r3,r4,fun B _ => ?_⟩
  rw[r2,mv_zero,mv_zero]
  exact ⟨id,id⟩
 rw[if_neg hm]
 generalize hla:max (e+(m.log2:Int) - (k.format.fractionBits:Int)) k.format.leastPlace=last
 have hl1:k.format.leastPlace≤last:=by omega
 have hl2:e+(m.log2:Int) - (k.format.fractionBits:Int)≤last:=by omega
 have hl3:last≠k.format.leastPlace→last=e+(m.log2:Int) - (k.format.fractionBits:Int):=by omega
 simp only
 generalize hn:m <<< (e - last).toNat=n
 generalize hd:(last - e).toNat=d
 have hval:mv n (last - (d:Int))=mv m e:=by
  rw[← hn,Nat.shiftLeft_eq,mv_shift]
  congr 1;omega
 have hlow:p2 (e+(m.log2:Int))≤mv m e:=by
  have:2 ^ m.log2≤m:=Nat.log2_self_le hm
  have h:=(mv_le (e:=e)).2 this
  rwa [mv_pow] at h
 have hhigh:mv m e<p2 (e+(m.log2:Int)+1):=by
  have:m<2 ^ (m.log2+1):=Nat.lt_log2_self
  have h:=(mv_lt (e:=e)).2 this
  rw[mv_pow] at h
  rw[show e+(m.log2:Int)+1=e+((m.log2+1:Nat):Int) by omega];exact h
 generalize hk:Ieee.Toward.cut .even s n d=kept
 have hcut:∀ B:Nat,(mv m e≤mv B last→mv kept last≤mv B last)∧(mv B last≤mv m e→mv B last≤mv kept last):=by
  intro B
  have hB:mv B last=mv (B * 2 ^ d) (last - (d:Int)):=by rw[mv_shift];congr 1;omega
  have:=cut_bounds s n d B
  rw[hk] at this
  rw[mv_le,mv_le]
  rw[← hval,hB,mv_le,mv_le]
  exact this
 have hkb:kept≤2 * k.format.binade:=by
  have h:=(hcut (2 * k.format.binade)).1 (by
   rw[hb,show 2 * 2 ^ k.format.fractionBits=2 ^ (k.format.fractionBits+1) by rw[Nat.pow_succ];omega,mv_pow]
   refine Rat.le_trans (Rat.le_of_lt hhigh) (p2_le ?_)
   omega)
  exact mv_le.1 h
 have hkl:last≠k.format.leastPlace→k.format.binade≤kept:=by
  intro h
  have h:=(hcut k.format.binade).2 (by
   rw[hb,mv_pow]
   refine Rat.le_trans (p2_le ?_) hlow
   have:=hl3 h
   omega)
  exact mv_le.1 h
 have key:∀ B,Rep0 k B→(mv m e≤B→mv kept last≤B)∧(B≤mv m e→B≤mv kept last):=by
  rintro B ⟨M,P,hM,hP,rfl⟩
  by_cases hPl:last≤P
  ·have hB:mv M P=mv (M * 2 ^ (P - last).toNat) last:=by rw[mv_shift];congr 1;omega
   rw[hB];exact hcut _
  ·have hl4:=hl3 (by omega)
   have hMB:mv M P≤mv k.format.binade last:=by
    refine Rat.le_trans (mv_le.2 hM) ?_
    rw[hb,show 2 * 2 ^ k.format.fractionBits=2 ^ (k.format.fractionBits+1) by rw[Nat.pow_succ];omega,mv_pow,mv_pow]
    exact p2_le (by omega)
   have hBm:mv k.format.binade last≤mv m e:=by
    rw[hb,mv_pow]
    exact Rat.le_trans (p2_le (by omega)) hlow
   constructor
   ·intro h
    have h1:mv m e≤mv k.format.binade last:=Rat.le_trans h hMB
    exact Rat.le_trans ((hcut _).1 h1) (Rat.le_trans hBm h)
   ·intro _
    exact Rat.le_trans hMB ((hcut _).2 hBm)
 have hfin:(last - k.format.leastPlace).toNat * k.format.binade+kept<k.format.infRung:=by
  rcases Nat.lt_or_ge ((last - k.format.leastPlace).toNat * k.format.binade+kept) k.format.infRung with h | h
  ·exact h
  ·exfalso
   have hR:mv kept last<p2 (topE k):=by
    have h1:=(key B0 hB0).1 hv
    grind
   rw[hinf] at h
   generalize hj:(last - k.format.leastPlace).toNat=j at h
   generalize hbb:k.format.binade=b at *
   have hj2:K≤j+2:=by
    rcases Nat.lt_or_ge (j+2) K with h' | h'
    ·have:(j+3) * b≤K * b:=Nat.mul_le_mul_right _ h'
     rw[Nat.add_mul] at this
     omega
    ·exact h'
   have hge:p2 (topE k)≤mv kept last:=by
    rcases Nat.lt_or_ge j (K - 1) with h' | h'
    ·have hj3:K=j+2:=by omega
     subst hj3
     rw[Nat.add_mul] at h
     have:kept=2 ^ (k.format.fractionBits+1):=by rw[Nat.pow_succ,← hb];omega
     rw[this,mv_pow]
     exact p2_le (by omega)
    ·have:mv (2 ^ k.format.fractionBits) last≤mv kept last:=mv_le.2 (by rw[← hb];exact hkl (by omega))
     refine Rat.le_trans ?_ this
     rw[mv_pow]
     exact p2_le (by omega)
   grind
 rw[Nat.min_eq_left (Nat.le_of_lt hfin)]
 obtain ⟨m',e',r1,r2,r3,r4⟩:=read_rung k s hkb (fun h=>hkl (by omega)) hfin
 refine ⟨m',e',r1,r3,r4,fun B hB => ?_⟩
 rw[r2,show k.format.leastPlace+((last - k.format.leastPlace).toNat:Int)=last by omega]
 exact key B hB
end Go.Desk
end
section
namespace Go.Desk
open Go
theorem mv_mul (a b:Nat) (e f:Int):mv (a * b) (e+f)=mv a e * mv b f:=by
 unfold mv;rw[Rat.natCast_mul,p2_add];grind
end Go.Desk
end
section
namespace Go.Desk
open Go
def Rep (k:FloatKind) (B:Rat):Prop:=∃ s C,Rep0 k C∧B=sg s C
theorem sg_false (v:Rat):sg false v=v:=rfl
theorem sg_true (v:Rat):sg true v = -v:=rfl
theorem rep0_nonneg {k:FloatKind} {B:Rat} (h:Rep0 k B):0≤B:=by
 obtain ⟨M,P,-,-,rfl⟩:=h;exact mv_nonneg _ _
theorem Rep0.rep {k:FloatKind} {B:Rat} (h:Rep0 k B):Rep k B:=⟨false,B,h,rfl⟩
theorem Rep0.neg {k:FloatKind} {B:Rat} (h:Rep0 k B):Rep k (-B):=⟨true,B,h,rfl⟩
def Val (k:FloatKind) (x:Nat) (v:Rat):Prop:=∃ s m e,k.decode x = .number s m e∧v=sg s (mv m e)∧m≤2 * k.format.binade∧k.format.leastPlace≤e
theorem Val.rep {k:FloatKind} {x:Nat} {v:Rat} (h:Val k x v):Rep k v:=by
 obtain ⟨s,m,e,-,rfl,h1,h2⟩:=h
 exact ⟨s,_,⟨m,e,h1,h2,rfl⟩,rfl⟩
theorem Val.inj {k:FloatKind} {x:Nat} {v w:Rat} (h:Val k x v) (h':Val k x w):v=w:=by
 obtain ⟨s,m,e,h1,rfl,-⟩:=h
 obtain ⟨s',m',e',h2,rfl,-⟩:=h'
 rw[h1] at h2;cases h2;rfl
def Near (k:FloatKind) (v R:Rat):Prop:=∀ B,Rep k B→(v≤B→R≤B)∧(B≤v→B≤R)
theorem write_val (k:FloatKind) (s:Bool) (m:Nat) (e:Int) {B0:Rat} (hB0:Rep0 k B0) (hv:mv m e≤B0) (hf:B0<p2 (topE k)) :
  ∃ R,Val k (k.encode (.number s m e)) R∧Near k (sg s (mv m e)) R:=by
 obtain ⟨m',e',r1,r2,r3,r4⟩:=round_mag k s m e hB0 hv hf
 refine ⟨sg s (mv m' e'),⟨s,m',e',r1,rfl,r2,r3⟩,?_⟩
 rintro B ⟨t,C,hC,rfl⟩
 obtain ⟨c1,c2⟩:=r4 C hC
 have hC0:=rep0_nonneg hC
 have h0:=mv_nonneg m e
 have h0' :=mv_nonneg m' e'
 have hz:mv m e≤0→mv m' e'≤0:=by
  intro h
  have hz:Rep0 k 0:=⟨0,k.format.leastPlace,Nat.zero_le _,Int.le_refl _,(mv_zero _).symm⟩
  exact (r4 0 hz).1 h
 cases s <;>cases t <;>simp only[sg] <;>constructor <;>intro h <;>simp only[Bool.false_eq_true,if_false,if_true] at * <;>grind
theorem Val.near_eq {k:FloatKind} {x:Nat} {v R:Rat} (h:Val k x R) (hn:Near k v R) (hv:Rep k v):Val k x v:=by
 have h1:=(hn v hv).1 Rat.le_refl
 have h2:=(hn v hv).2 Rat.le_refl
 have:v=R:=by grind
 rw[this];exact h
theorem Val.num {k:FloatKind} {x:Nat} {v:Rat} (h:Val k x v):isNaN k x=false:=by
 obtain ⟨s,m,e,h1,-⟩:=h
 unfold isNaN;rw[h1];rfl
theorem signed_val (s:Bool) (m up:Nat) (b:Int):((Ieee.signed s m up:Int):Rat) * p2 b=sg s (mv m (b+(up:Int))):=by
 rw[← mv_shift]
 unfold Ieee.signed sg mv
 rw[Nat.shiftLeft_eq]
 cases s <;>simp only[Bool.false_eq_true,if_false,if_true]
 ·rw[Rat.intCast_natCast]
 ·rw[Rat.intCast_neg,Rat.intCast_natCast];grind
theorem total_val (t:Int) (c:Bool) (b:Int):sg (if t=0 then c else decide (t<0)) (mv t.natAbs b)=(t:Rat) * p2 b:=by
 by_cases h0:t=0
 ·subst h0
  rw[if_pos rfl]
  simp only[Int.natAbs_zero,mv_zero,sg,Rat.intCast_zero,Rat.zero_mul]
  cases c <;>simp
 ·rw[if_neg h0]
  by_cases h1:t<0
  ·rw[decide_eq_true h1]
   have:(t:Rat) = -((t.natAbs:Nat):Rat):=by rw[← Rat.intCast_natCast,← Rat.intCast_neg];congr 1;omega
   rw[this]
   simp only[sg,if_true,mv];grind
  ·rw[decide_eq_false h1]
   have:(t:Rat)=((t.natAbs:Nat):Rat):=by rw[← Rat.intCast_natCast];congr 1;omega
   rw[this]
   simp only[sg,Bool.false_eq_true,if_false,mv]
theorem rlt {a b c:Rat} (h1:a≤b) (h2:b<c):a<c:=by grind
theorem abs_le {s:Bool} {c B:Rat} (_:0≤c) (h1:sg s c≤B) (h2 : -B≤sg s c):c≤B:=by
 cases s <;>simp only[sg,Bool.false_eq_true,if_false,if_true] at * <;>grind
theorem add_val {k:FloatKind} {x y:Nat} {a b B:Rat} (hx:Val k x a) (hy:Val k y b) (hB:Rep0 k B) (hf:B<p2 (topE k)) (h1:a+b≤B) (h2 : -B≤a+b) :
  ∃ R,Val k (fadd k x y) R∧Near k (a+b) R:=by
 obtain ⟨s,m,i,e1,rfl,-⟩:=hx
 obtain ⟨t,n,j,e2,rfl,-⟩:=hy
 have e1:k.format.read x = .number s m i:=e1
 have e2:k.format.read y = .number t n j:=e2
 generalize hb:min i j=base
 generalize ht:Ieee.signed s m (i - base).toNat+Ieee.signed t n (j - base).toNat=total
 have hadd:fadd k x y=k.encode (.number (if total=0 then s&&t else total<0) total.natAbs base):=by
  simp only[fadd,Ieee.Format.add,e1,e2,Ieee.Datum.sum,Option.map_some,hb,ht]
  rfl
 have hval:sg (if total=0 then s&&t else decide (total<0)) (mv total.natAbs base)=sg s (mv m i)+sg t (mv n j):=by
  rw[total_val,← ht,Rat.intCast_add,Rat.add_mul,signed_val,signed_val]
  congr 2 <;>congr 1 <;>omega
 rw[hadd,← hval]
 exact write_val k _ _ _ hB (abs_le (mv_nonneg _ _) (by rw[hval];exact h1) (by rw[hval];exact h2)) hf
theorem mul_val {k:FloatKind} {x y:Nat} {a b B:Rat} (hx:Val k x a) (hy:Val k y b) (hB:Rep0 k B) (hf:B<p2 (topE k)) (h1:a * b≤B) (h2 : -B≤a * b) :
  ∃ R,Val k (fmul k x y) R∧Near k (a * b) R:=by
 obtain ⟨s,m,i,e1,rfl,-⟩:=hx
 obtain ⟨t,n,j,e2,rfl,-⟩:=hy
 have e1:k.format.read x = .number s m i:=e1
 have e2:k.format.read y = .number t n j:=e2
 have hmul:fmul k x y=k.encode (.number (s ^^ t) (m * n) (i+j)):=by
  simp only[fmul,Ieee.Format.mul,e1,e2,Ieee.Datum.product,Option.map_some]
  rfl
 have hval:sg (s ^^ t) (mv (m * n) (i+j))=sg s (mv m i) * sg t (mv n j):=by
  rw[mv_mul]
  cases s <;>cases t <;>simp[sg] <;>grind
 rw[hmul,← hval]
 exact write_val k _ _ _ hB (abs_le (mv_nonneg _ _) (by rw[hval];exact h1) (by rw[hval];exact h2)) hf
theorem order_val {k:FloatKind} {x y:Nat} {a b:Rat} (hx:Val k x a) (hy:Val k y b):(k.format.order x y=some .lt↔a<b)∧(k.format.order x y=some .eq↔a=b)∧(k.format.order x y=some .gt↔b<a):=by
 obtain ⟨s,m,i,e1,rfl,-⟩:=hx
 obtain ⟨t,n,j,e2,rfl,-⟩:=hy
 have e1:k.format.read x = .number s m i:=e1
 have e2:k.format.read y = .number t n j:=e2
 generalize hb:min i j=base
 have ha:sg s (mv m i)=((Ieee.signed s m (i - base).toNat:Int):Rat) * p2 base:=by rw[signed_val];congr 2;omega
 have hc:sg t (mv n j)=((Ieee.signed t n (j - base).toNat:Int):Rat) * p2 base:=by rw[signed_val];congr 2;omega
 rw[ha,hc]
 have ho:k.format.order x y=some (compare (Ieee.signed s m (i - base).toNat) (Ieee.signed t n (j - base).toNat)):=by
  simp only[Ieee.Format.order,e1,e2,Ieee.Datum.order,hb]
 rw[ho]
 generalize Ieee.signed s m (i - base).toNat=u
 generalize Ieee.signed t n (j - base).toNat=v
 have hlt:∀ p q:Int,(p:Rat) * p2 base<(q:Rat) * p2 base↔p<q:=fun p q=>by rw[Rat.mul_lt_mul_right (p2_pos _),Rat.intCast_lt_intCast]
 have heq:((u:Rat) * p2 base=(v:Rat) * p2 base)↔u=v:=by
  constructor
  ·intro h
   rcases Int.lt_trichotomy u v with h1 | h1 | h1
   ·have:=(hlt u v).2 h1;grind
   ·exact h1
   ·have:=(hlt v u).2 h1;grind
  ·rintro rfl;rfl
 rw[hlt,hlt,heq]
 have hc:(u<v∧compare u v = .lt)∨(u=v∧compare u v = .eq)∨(v<u∧compare u v = .gt):=by
  rcases Int.lt_trichotomy u v with h1 | h1 | h1
  ·exact .inl ⟨h1,by simp[compare,compareOfLessAndEq,h1]⟩
  ·subst h1;exact .inr (.inl ⟨rfl,by simp[compare,compareOfLessAndEq]⟩)
  ·exact .inr (.inr ⟨h1,by simp only[compare,compareOfLessAndEq];rw[if_neg (by omega),if_neg (by omega)]⟩)
 rcases hc with ⟨h,e⟩ | ⟨h,e⟩ | ⟨h,e⟩ <;>rw[e] <;>simp <;>omega
theorem fle_val {k:FloatKind} {x y:Nat} {a b:Rat} (hx:Val k x a) (hy:Val k y b):fle k x y=true↔a≤b:=by
 have h1:=(order_val hx hy).1
 have h2:=(order_val hx hy).2.1
 simp only[fle,Bool.or_eq_true,beq_iff_eq,h1,h2]
 grind
theorem fge_val {k:FloatKind} {x y:Nat} {a b:Rat} (hx:Val k x a) (hy:Val k y b):fge k x y=true↔b≤a:=by
 have h1:=(order_val hx hy).2.2
 have h2:=(order_val hx hy).2.1
 simp only[fge,Bool.or_eq_true,beq_iff_eq,h1,h2]
 grind
theorem int_val {k:FloatKind} {n:Int} (hn:n.natAbs≤2 * k.format.binade):Val k (k.nearest n) (n:Rat):=by
 have hm:Rep0 k (mv n.natAbs 0):=⟨n.natAbs,0,hn,by cases k <;>decide,rfl⟩
 have hval:sg (decide (n<0)) (mv n.natAbs 0)=(n:Rat):=by
  have:=total_val n (decide (n<0)) 0
  rw[p2_zero,Rat.mul_one] at this
  rw[← this]
  congr 1
  by_cases h:n=0
  ·rw[if_pos h]
  ·rw[if_neg h]
 have hlt:mv n.natAbs 0<p2 (topE k):=by
  have h1:mv n.natAbs 0≤mv (2 * k.format.binade) 0:=mv_le.2 hn
  cases k
  ·exact rlt h1 (by rw[show 2 * FloatKind.f32.format.binade=2 ^ 24 by decide,mv_pow];exact p2_lt (by decide))
  ·exact rlt h1 (by rw[show 2 * FloatKind.f64.format.binade=2 ^ 53 by decide,mv_pow];exact p2_lt (by decide))
 obtain ⟨R,h1,h2⟩:=write_val k (decide (n<0)) n.natAbs 0 hm Rat.le_refl hlt
 have h3:Val k (k.nearest n) R:=h1
 rw[hval] at h2
 refine h3.near_eq h2 ⟨decide (n<0),_,hm,hval.symm⟩
theorem near_sg {k:FloatKind} {Q v:Rat} (hQ:0≤Q) (hv:0≤v) (h:∀ C,Rep0 k C→(Q≤C→v≤C)∧(C≤Q→C≤v)) (s:Bool):Near k (sg s Q) (sg s v):=by
 rintro B ⟨t,C,hC,rfl⟩
 obtain ⟨c1,c2⟩:=h C hC
 have hC0:=rep0_nonneg hC
 have hz:Q≤0→v≤0:=(h 0 ⟨0,k.format.leastPlace,Nat.zero_le _,Int.le_refl _,(mv_zero _).symm⟩).1
 cases s <;>cases t <;>simp only[sg] <;>constructor <;>intro h <;>simp only[Bool.false_eq_true,if_false,if_true] at * <;>grind
theorem Near.trans {k:FloatKind} {a b c:Rat} (h:Near k a b) (h':Near k b c):Near k a c:=fun B hB=>⟨fun h1=>(h' B hB).1 ((h B hB).1 h1),fun h1=>(h' B hB).2 ((h B hB).2 h1)⟩
theorem quot_sides (k:FloatKind) {m n:Nat} {i j:Int} (hn:n≠0) {more q:Nat} {st:Bool} (hmore:k.format.fractionBits+2+n.log2≤more+m.log2) (hq:(m <<< more) / n=q) (hst:((m <<< more) % n != 0)=st) {C:Rat} (hC:Rep0 k C) :
  (mv m i≤C * mv n j→mv (2 * q+st.toNat) (i - j - more - 1)≤C)∧(C * mv n j≤mv m i→C≤mv (2 * q+st.toNat) (i - j - more - 1)):=by
 obtain ⟨-,-,-,-,-,hb⟩:=fmt k
 obtain ⟨M,P,hM,hP,rfl⟩:=hC
 generalize hu:i - j - (more:Int)=u
 rw[Nat.shiftLeft_eq] at hq hst
 generalize hdv:m * 2 ^ more=dv at hq hst
 have hmv:mv m i=mv dv (u+j):=by rw[← hdv,mv_shift];congr 1;omega
 have hdm:=Nat.div_add_mod dv n
 rw[hq] at hdm
 have hml:=Nat.mod_lt dv (Nat.pos_of_ne_zero hn)
 have hstr:(st=true→0<dv % n)∧(st=false→dv % n=0):=by
  rw[← hst]
  constructor <;>intro h <;>simp at h <;>omega
 have hst1:=Bool.toNat_le st
 have h2:∀ c,mv c u=mv (2 * c) (u - 1):=fun c=>by rw[show 2 * c=c * 2 ^ 1 by omega,mv_shift];congr 1;omega
 by_cases hPu:u≤P
 ·have hC:mv M P=mv (M * 2 ^ (P - u).toNat) u:=by rw[mv_shift];congr 1;omega
  rw[hC]
  generalize M * 2 ^ (P - u).toNat=M'
  rw[hmv,← mv_mul,mv_le,mv_le,h2 M',mv_le,mv_le]
  constructor
  ·intro h
   have h3:n * q≤n * M' :=by rw[Nat.mul_comm n M'];omega
   have h4:=Nat.le_of_mul_le_mul_left h3 (Nat.pos_of_ne_zero hn)
   cases st
   ·simp only[Bool.toNat_false];omega
   ·have h5:n * q<n * M' :=by rw[Nat.mul_comm n M'];have:=hstr.1 rfl;omega
    have h6:=Nat.lt_of_mul_lt_mul_left h5
    simp only[Bool.toNat_true];omega
  ·intro h
   have:M'≤q:=by
    rw[← hq];exact (Nat.le_div_iff_mul_le (Nat.pos_of_ne_zero hn)).2 h
   omega
 ·by_cases hm:m=0
  ·subst hm
   have hd0:dv=0:=by rw[← hdv,Nat.zero_mul]
   subst hd0
   have hq0:q=0:=by rw[← hq,Nat.zero_div]
   subst hq0
   have:st=false:=by rw[← hst];simp
   subst this
   simp only[Bool.toNat_false,Nat.mul_zero,Nat.add_zero,mv_zero]
   refine ⟨fun _=>mv_nonneg _ _,fun h => ?_⟩
   rcases Nat.eq_zero_or_pos M with h0 | h0
   ·subst h0;rw[mv_zero];exact Rat.le_refl
   ·exfalso
    rw[← mv_mul] at h
    have h5:mv 0 (P+j)<mv (M * n) (P+j):=mv_lt.2 (Nat.mul_pos h0 (Nat.pos_of_ne_zero hn))
    rw[mv_zero] at h5
    grind
  ·have hdl:2 ^ (k.format.fractionBits+2+n.log2)≤dv:=by
    have h3:2 ^ (m.log2+more)≤dv:=by
     rw[Nat.pow_add,← hdv]
     exact Nat.mul_le_mul_right _ (Nat.log2_self_le hm)
    exact Nat.le_trans (Nat.pow_le_pow_right (by decide) (by omega)) h3
   have hql:2 ^ (k.format.fractionBits+1)≤q:=by
    rw[← hq,Nat.le_div_iff_mul_le (Nat.pos_of_ne_zero hn)]
    have h4:n<2 ^ (n.log2+1):=Nat.lt_log2_self
    have h5:2 ^ (k.format.fractionBits+1) * n≤2 ^ (k.format.fractionBits+1) * 2 ^ (n.log2+1):=Nat.mul_le_mul_left _ (Nat.le_of_lt h4)
    rw[← Nat.pow_add,show k.format.fractionBits+1+(n.log2+1)=k.format.fractionBits+2+n.log2 by omega] at h5
    omega
   have hCu:mv M P≤mv (2 ^ k.format.fractionBits) u:=by
    refine Rat.le_trans (mv_le.2 hM) ?_
    rw[hb,show 2 * 2 ^ k.format.fractionBits=2 ^ (k.format.fractionBits+1) by rw[Nat.pow_succ];omega,mv_pow,mv_pow]
    exact p2_le (by omega)
   have hpw:2 ^ k.format.fractionBits<2 ^ (k.format.fractionBits+1):=by rw[Nat.pow_succ];have:=Nat.two_pow_pos k.format.fractionBits;omega
   have hle:mv M P≤mv (2 * q+st.toNat) (u - 1):=by
    refine Rat.le_trans hCu ?_
    rw[h2,mv_le];omega
   refine ⟨fun h => ?_,fun _=>hle⟩
   exfalso
   have h6:mv M P * mv n j≤mv (2 ^ k.format.fractionBits) u * mv n j:=Rat.mul_le_mul_of_nonneg_right hCu (mv_nonneg _ _)
   have h7:=Rat.le_trans h h6
   rw[hmv,← mv_mul,mv_le] at h7
   have h8:2 ^ (k.format.fractionBits+1) * n≤q * n:=Nat.mul_le_mul_right _ hql
   have h9:2 ^ k.format.fractionBits * n<2 ^ (k.format.fractionBits+1) * n:=Nat.mul_lt_mul_of_pos_right hpw (Nat.pos_of_ne_zero hn)
   rw[Nat.mul_comm q n] at h8
   omega
theorem div_val {k:FloatKind} {x y:Nat} {a b B:Rat} (hx:Val k x a) (hy:Val k y b) (hb:b≠0) (hB:Rep0 k B) (hf:B<p2 (topE k)) (h1:a / b≤B) (h2 : -B≤a / b) :
  ∃ R,Val k (fdiv k x y) R∧Near k (a / b) R:=by
 obtain ⟨s,m,i,e1,rfl,-⟩:=hx
 obtain ⟨t,n,j,e2,rfl,-⟩:=hy
 have e1:k.format.read x = .number s m i:=e1
 have e2:k.format.read y = .number t n j:=e2
 have hn:n≠0:=by
  rintro rfl
  apply hb
  rw[mv_zero];cases t <;>simp[sg]
 generalize hmo:k.format.fractionBits+2+n.log2 - m.log2=more
 generalize hq:(m <<< more) / n=q
 generalize hst:((m <<< more) % n != 0)=st
 have hdiv:fdiv k x y=k.encode (.number (s ^^ t) (2 * q+st.toNat) (i - j - more - 1)):=by
  simp only[fdiv,Ieee.Format.div,e1,e2,Ieee.Datum.quotient,if_neg hn,hmo,hq,hst,Option.map_some]
  rfl
 have hnp:0<mv n j:=by have:=(mv_lt (e:=j)).2 (Nat.pos_of_ne_zero hn);rwa [mv_zero] at this
 have hval:sg s (mv m i) / sg t (mv n j)=sg (s ^^ t) (mv m i / mv n j):=by
  cases s <;>cases t <;>simp[sg] <;>grind
 have hcan:mv m i / mv n j * mv n j=mv m i:=by rw[Rat.div_mul_cancel];grind
 have hQ:0≤mv m i / mv n j:=by
  have h3:=mv_nonneg m i
  rcases Rat.le_total (a:=0) (b:=mv m i / mv n j) with h | h
  ·exact h
  ·have h4:mv m i / mv n j * mv n j≤0 * mv n j:=Rat.mul_le_mul_of_nonneg_right h (Rat.le_of_lt hnp)
   rw[hcan,Rat.zero_mul] at h4
   have h5:mv m i=0:=by grind
   rw[h5,Rat.div_def,Rat.zero_mul];exact Rat.le_refl
 have hside:∀ C,Rep0 k C→(mv m i / mv n j≤C→mv (2 * q+st.toNat) (i - j - more - 1)≤C)∧(C≤mv m i / mv n j→C≤mv (2 * q+st.toNat) (i - j - more - 1)):=by
  intro C hC
  obtain ⟨c1,c2⟩:=quot_sides k (i:=i) (j:=j) hn (by omega) hq hst hC
  constructor
  ·intro h
   have:=Rat.mul_le_mul_of_nonneg_right h (Rat.le_of_lt hnp)
   rw[hcan] at this
   exact c1 this
  ·intro h
   have:=Rat.mul_le_mul_of_nonneg_right h (Rat.le_of_lt hnp)
   rw[hcan] at this
   exact c2 this
 rw[hval] at h1 h2 ⊢
 have hQB:=abs_le hQ h1 h2
 obtain ⟨R,r1,r2⟩:=write_val k (s ^^ t) (2 * q+st.toNat) (i - j - more - 1) hB ((hside B hB).1 hQB) hf
 rw[hdiv]
 exact ⟨R,r1,(near_sg hQ (mv_nonneg _ _) hside _).trans r2⟩
end Go.Desk
end
section
namespace Go.Desk
open Go
theorem read_val {k:FloatKind} {x:Nat} {s:Bool} {m:Nat} {e:Int} (h:k.decode x = .number s m e):Val k x (sg s (mv m e)):=by
 refine ⟨s,m,e,h,rfl,?_⟩
 obtain ⟨K,-,-,-,-,hb⟩:=fmt k
 have hbp:0<k.format.binade:=by rw[hb];exact Nat.two_pow_pos _
 have h:k.format.read x = .number s m e:=h
 unfold Ieee.Format.read at h
 by_cases c1:x % k.format.signWeight<k.format.binade
 ·simp only[if_pos c1] at h
  cases h
  exact ⟨by omega,Int.le_refl _⟩
 ·by_cases c2:x % k.format.signWeight<k.format.infRung
  ·simp only[if_neg c1,if_pos c2] at h
   cases h
   have:=Nat.mod_lt (x % k.format.signWeight) hbp
   exact ⟨by omega,by omega⟩
  ·by_cases c3:x % k.format.signWeight=k.format.infRung
   ·simp only[if_neg c1,if_neg c2,if_pos c3] at h;cases h
   ·simp only[if_neg c1,if_neg c2,if_neg c3] at h;cases h
end Go.Desk
end
section
namespace Go.Desk
open Go
theorem read_norm {k:FloatKind} {x:Nat} {s:Bool} {m:Nat} {e:Int} (h:k.decode x = .number s m e) :
  m<2 * k.format.binade∧k.format.leastPlace≤e∧(k.format.leastPlace<e→k.format.binade≤m)∧x % k.format.signWeight=(e - k.format.leastPlace).toNat * k.format.binade+m∧(x / k.format.signWeight % 2==1)=s:=by
 obtain ⟨K,-,-,-,-,hb⟩:=fmt k
 have hbp:0<k.format.binade:=by rw[hb];exact Nat.two_pow_pos _
 have h:k.format.read x = .number s m e:=h
 unfold Ieee.Format.read at h
 by_cases c1:x % k.format.signWeight<k.format.binade
 ·simp only[if_pos c1] at h
  cases h
  refine ⟨by omega,Int.le_refl _,fun h=>by omega,?_,rfl⟩
  rw[Int.sub_self];simp
 ·by_cases c2:x % k.format.signWeight<k.format.infRung
  ·simp only[if_neg c1,if_pos c2] at h
   cases h
   generalize x % k.format.signWeight=r at *
   generalize hbb:k.format.binade=b at *
   have h1:=Nat.mod_lt r hbp
   have h2:=Nat.div_add_mod r b
   have h3:1≤r / b:=(Nat.le_div_iff_mul_le hbp).2 (by omega)
   refine ⟨by omega,by omega,fun _=>by omega,?_,rfl⟩
   have h4:(k.format.leastPlace+((r / b - 1:Nat):Int) - k.format.leastPlace).toNat=r / b - 1:=by omega
   rw[h4]
   generalize r / b=q at *
   obtain ⟨q,rfl⟩:∃ p,q=p+1:=⟨q - 1,by omega⟩
   rw[Nat.mul_add] at h2
   rw[Nat.add_sub_cancel,Nat.mul_comm q b]
   omega
  ·by_cases c3:x % k.format.signWeight=k.format.infRung
   ·simp only[if_neg c1,if_neg c2,if_pos c3] at h;cases h
   ·simp only[if_neg c1,if_neg c2,if_neg c3] at h;cases h
theorem mv_norm {k:FloatKind} {m m':Nat} {e e':Int} (h1:m<2 * k.format.binade) (h1':m'<2 * k.format.binade) (h2:k.format.leastPlace≤e) (h2':k.format.leastPlace≤e') (h3:k.format.leastPlace<e→k.format.binade≤m) (h3':k.format.leastPlace<e'→k.format.binade≤m') (h:mv m e=mv m' e'):m=m'∧e=e' :=by
 have key:∀ {m m':Nat} {e e':Int},m<2 * k.format.binade→k.format.leastPlace≤e→(k.format.leastPlace<e'→k.format.binade≤m')→mv m e=mv m' e'→¬ e<e' :=by
  intro m m' e e' a1 a2 a3 a4 a5
  have e1:mv m' e'=mv (m' * 2 ^ (e' - e).toNat) e:=by rw[mv_shift];congr 1;omega
  rw[e1] at a4
  have h5:=mv_le.1 (show mv (m' * 2 ^ (e' - e).toNat) e≤mv m e by rw[a4];exact Rat.le_refl)
  have h6:=a3 (by omega)
  have h7:2 ^ 1≤2 ^ (e' - e).toNat:=Nat.pow_le_pow_right (by decide) (by omega)
  have h8:k.format.binade * 2≤m' * 2 ^ (e' - e).toNat:=Nat.mul_le_mul h6 h7
  omega
 have h4:=key h1 h2 h3' h
 have h5:=key h1' h2' h3 h.symm
 have he:e=e' :=by omega
 subst he
 refine ⟨?_,rfl⟩
 have h6:=mv_le.1 (show mv m e≤mv m' e by rw[h];exact Rat.le_refl)
 have h7:=mv_le.1 (show mv m' e≤mv m e by rw[h];exact Rat.le_refl)
 omega
theorem word_inj {k:FloatKind} {x y:Nat} {s:Bool} {m m':Nat} {e e':Int} (hx:x<2 * k.format.signWeight) (hy:y<2 * k.format.signWeight) (h:k.decode x = .number s m e) (h':k.decode y = .number s m' e') (hv:mv m e=mv m' e'):x=y:=by
 obtain ⟨a1,a2,a3,a4,a5⟩:=read_norm h
 obtain ⟨b1,b2,b3,b4,b5⟩:=read_norm h'
 obtain ⟨rfl,rfl⟩:=mv_norm a1 b1 a2 b2 a3 b3 hv
 have hp:0<k.format.signWeight:=by omega
 have h1:x % k.format.signWeight=y % k.format.signWeight:=by rw[a4,b4]
 have q1:x / k.format.signWeight<2:=(Nat.div_lt_iff_lt_mul hp).2 hx
 have q2:y / k.format.signWeight<2:=(Nat.div_lt_iff_lt_mul hp).2 hy
 rw[Nat.mod_eq_of_lt q1] at a5
 rw[Nat.mod_eq_of_lt q2] at b5
 have h2:x / k.format.signWeight=y / k.format.signWeight:=by
  have:(x / k.format.signWeight==1)=(y / k.format.signWeight==1):=by rw[a5,b5]
  generalize x / k.format.signWeight=p at *
  generalize y / k.format.signWeight=q at *
  rcases Nat.lt_or_ge p 1 with c1 | c1 <;>rcases Nat.lt_or_ge q 1 with c2 | c2
  ·omega
  ·obtain rfl:p=0:=by omega
   obtain rfl:q=1:=by omega
   cases this
  ·obtain rfl:p=1:=by omega
   obtain rfl:q=0:=by omega
   cases this
  ·omega
 rw[← Nat.div_add_mod x k.format.signWeight,← Nat.div_add_mod y k.format.signWeight,h1,h2]
theorem nearest_word (f:Ieee.Format) (s:Bool) (m:Nat) (e:Int):f.nearest s m e=f.word s (f.nearest false m e):=by
 unfold Ieee.Format.nearest
 by_cases hm:m=0
 ·rw[if_pos hm,if_pos hm];rfl
 ·rw[if_neg hm,if_neg hm];rfl
theorem nearest_pos_lt (k:FloatKind) (m:Nat) (e:Int):k.format.nearest false m e≤k.format.infRung:=by
 unfold Ieee.Format.nearest
 by_cases hm:m=0
 ·rw[if_pos hm];exact Nat.zero_le _
 ·rw[if_neg hm];exact Nat.min_le_right _ _
theorem word_lt (k:FloatKind) (s:Bool) {r:Nat} (h:r≤k.format.infRung):k.format.word s r<2 * k.format.signWeight:=by
 have:=infRung_lt k
 unfold Ieee.Format.word
 split <;>omega
theorem exact_write (k:FloatKind) (s:Bool) {m:Nat} {e:Int} (h:Rep0 k (mv m e)) (hf:mv m e<p2 (topE k)):∃ m' e',k.decode (k.encode (.number s m e)) = .number s m' e'∧mv m' e'=mv m e:=by
 obtain ⟨m',e',r1,-,-,r4⟩:=round_mag k s m e h Rat.le_refl hf
 obtain ⟨c1,c2⟩:=r4 _ h
 have h1:=c1 Rat.le_refl
 have h2:=c2 Rat.le_refl
 exact ⟨m',e',r1,by grind⟩
def size32 (x:Nat):Nat:=if isNaN .f32 x then qnan .f32 else x % 2147483648
theorem decode_size {x:Nat}:(∀ s m e,FloatKind.f32.decode x = .number s m e→FloatKind.f32.decode (x % 2147483648) = .number false m e)∧(∀ s,FloatKind.f32.decode x = .infinity s→FloatKind.f32.decode (x % 2147483648) = .infinity false):=by
 have hw:FloatKind.f32.format.signWeight=2147483648:=rfl
 have hr:x % 2147483648 % FloatKind.f32.format.signWeight=x % FloatKind.f32.format.signWeight:=by rw[hw,Nat.mod_mod]
 have hs:(x % 2147483648 / FloatKind.f32.format.signWeight % 2==1)=false:=by
  rw[hw,Nat.div_eq_of_lt (Nat.mod_lt _ (by decide))];rfl
 constructor
 ·intro s m e h
  have h:FloatKind.f32.format.read x = .number s m e:=h
  show FloatKind.f32.format.read (x % 2147483648)=_
  unfold Ieee.Format.read at h ⊢
  simp only[hr,hs]
  by_cases c1:x % FloatKind.f32.format.signWeight<FloatKind.f32.format.binade
  ·simp only[if_pos c1] at h ⊢;cases h;rfl
  ·by_cases c2:x % FloatKind.f32.format.signWeight<FloatKind.f32.format.infRung
   ·simp only[if_neg c1,if_pos c2] at h ⊢;cases h;rfl
   ·by_cases c3:x % FloatKind.f32.format.signWeight=FloatKind.f32.format.infRung
    ·simp only[if_neg c1,if_neg c2,if_pos c3] at h;cases h
    ·simp only[if_neg c1,if_neg c2,if_neg c3] at h;cases h
 ·intro s h
  have h:FloatKind.f32.format.read x = .infinity s:=h
  show FloatKind.f32.format.read (x % 2147483648)=_
  unfold Ieee.Format.read at h ⊢
  simp only[hr,hs]
  by_cases c1:x % FloatKind.f32.format.signWeight<FloatKind.f32.format.binade
  ·simp only[if_pos c1] at h;cases h
  ·by_cases c2:x % FloatKind.f32.format.signWeight<FloatKind.f32.format.infRung
   ·simp only[if_neg c1,if_pos c2] at h;cases h
   ·by_cases c3:x % FloatKind.f32.format.signWeight=FloatKind.f32.format.infRung
    ·simp only[if_neg c1,if_neg c2,if_pos c3]
    ·simp only[if_neg c1,if_neg c2,if_neg c3] at h;cases h
theorem val_zero (k:FloatKind):Val k 0 0:=by
 have h:k.decode 0 = .number false 0 k.format.leastPlace:=by cases k <;>decide
 have:=read_val h
 rwa [sg_false,mv_zero] at this
theorem GoodF.lt32 {x:Nat} (h:GoodF .f32 x):x<4294967296:=by
 have:=h.2
 simpa [Lit.wf] using this
end Go.Desk
end
section
namespace Go.Desk
open Go
theorem br_t {α:Type} (x y:Option α):br true x y=x:=rfl
theorem br_f {α:Type} (x y:Option α):br false x y=y:=rfl
theorem gd_t {α:Type} (x:Option α):gd true x=x:=rfl
theorem bd_s {α β:Type} (a:α) (k:α→Option β):bd (some a) k=k a:=rfl
theorem sm_r {A B γ:Type} (a:B) (f:A→γ) (g:B→γ):sm (.inr a) f g=g a:=rfl
section
variable {p zs:List Nat} {z:Nat} {k:FloatKind}
theorem toNat_len {α:Type} (p:List α):((p.length:Nat):Int).toNat=p.length:=rfl
end
section
variable {p zs:List Int} {z:Int} {k:IntKind}
end
section
variable {α:Type} {p zs:List α} {z:α}
theorem lt_mid:decide ((p.length:Int)<((p++z::zs).length:Int))=true:=by simp;omega
theorem in_mid:decide ((0:Int)≤(p.length:Int)∧(p.length:Int)<((p++z::zs).length:Int))=true:=by simp;omega
theorem lt_end:decide ((p.length:Int)<((p++[]).length:Int))=false:=by simp
theorem wrap_len (h:p.length<4611686018427387904):IntKind.i64.wrap ((p.length:Int)+1)=(((p++[z]).length:Nat):Int):=by rw[wrap_succ (by omega)];simp
theorem push_ok (h:p.length<2147483648):Nat.ble (p.length+1) 2147483648=true:=by rw[Nat.ble_eq];omega
theorem push_len:p.length+1=(p++[z]).length:=by simp
end
def W32 (x:Nat):Prop:=x<4294967296∧canon .f32 x=x
theorem GoodF.w32 {x:Nat} (h:GoodF .f32 x):W32 x:=⟨h.lt32,h.1⟩
theorem w32_qnan:W32 (qnan .f32):=⟨by decide,by decide⟩
theorem write_lt (k:FloatKind) {d:Ieee.Datum} (h:∀ s t,d ≠ .nan s t):k.format.write d<2 * k.format.signWeight:=by
 cases d with
 | nan s t=>exact absurd rfl (h s t)
 | infinity s=>exact word_lt k s (Nat.le_refl _)
 | number s m e =>
   show k.format.nearest s m e<_
   rw[nearest_word]
   exact word_lt k s (nearest_pos_lt k m e)
theorem w32_write {d:Ieee.Datum} (h:∀ s t,d ≠ .nan s t):W32 (FloatKind.f32.format.write d):=⟨write_lt .f32 h,canon_num (write_num h)⟩
theorem w32_fdiv (x y:Nat):W32 (fdiv .f32 x y):=by
 unfold fdiv Ieee.Format.div
 cases h:(FloatKind.f32.format.read x).quotient (FloatKind.f32.format.fractionBits+2) (FloatKind.f32.format.read y) with
 | none=>exact w32_qnan
 | some d=>exact w32_write (fun s t e=>quotient_not_nan h s t e)
def Plain (x:Nat):Prop:=∃ m:Int,(-64≤m∧m≤64)∧(x=fdiv .f32 (FloatKind.f32.nearest m) 1088421888∨x=fdiv .f32 (FloatKind.f32.nearest m) 1098907648)
theorem Plain.w32 {x:Nat} (h:Plain x):W32 x:=by
 obtain ⟨m,-,rfl | rfl⟩:=h <;>exact w32_fdiv _ _
section
variable {σ α β:Type}
end
end Go.Desk
end
section
namespace Go.Desk
open Go
def magOf (k:FloatKind) (x:Nat):Nat:=x % k.format.signWeight
def negOf (k:FloatKind) (x:Nat):Bool:=x / k.format.signWeight % 2==1
def key (k:FloatKind) (x:Nat):Int:=if negOf k x then -(magOf k x:Int) else (magOf k x:Int)
theorem binade_pos (k:FloatKind):0<k.format.binade:=by cases k <;>decide
theorem read_inf {k:FloatKind} {x:Nat} {s:Bool} (h:k.decode x = .infinity s):magOf k x=k.format.infRung∧negOf k x=s:=by
 have h:k.format.read x = .infinity s:=h
 unfold Ieee.Format.read at h
 by_cases c1:x % k.format.signWeight<k.format.binade
 ·simp only[if_pos c1] at h;cases h
 ·by_cases c2:x % k.format.signWeight<k.format.infRung
  ·simp only[if_neg c1,if_pos c2] at h;cases h
  ·by_cases c3:x % k.format.signWeight=k.format.infRung
   ·simp only[if_neg c1,if_neg c2,if_pos c3] at h;cases h;exact ⟨c3,rfl⟩
   ·simp only[if_neg c1,if_neg c2,if_neg c3] at h;cases h
theorem read_fin {k:FloatKind} {x:Nat} {s:Bool} {m:Nat} {e:Int} (h:k.decode x = .number s m e):magOf k x<k.format.infRung∧negOf k x=s:=by
 refine ⟨?_,(read_norm h).2.2.2.2⟩
 have h:k.format.read x = .number s m e:=h
 unfold Ieee.Format.read at h
 have hb:k.format.binade<k.format.infRung:=by cases k <;>decide
 by_cases c1:x % k.format.signWeight<k.format.binade
 ·unfold magOf;omega
 ·by_cases c2:x % k.format.signWeight<k.format.infRung
  ·exact c2
  ·by_cases c3:x % k.format.signWeight=k.format.infRung
   ·simp only[if_neg c1,if_neg c2,if_pos c3] at h;cases h
   ·simp only[if_neg c1,if_neg c2,if_neg c3] at h;cases h
theorem mag_lt {k:FloatKind} {x y:Nat} {s t:Bool} {m n:Nat} {i j:Int} (h:k.decode x = .number s m i) (h':k.decode y = .number t n j) (hl:magOf k x<magOf k y):mv m i<mv n j:=by
 obtain ⟨a1,a2,a3,a4,-⟩:=read_norm h
 obtain ⟨b1,b2,b3,b4,-⟩:=read_norm h'
 unfold magOf at hl
 rw[a4,b4] at hl
 have hB:=binade_pos k
 generalize k.format.binade=B at *
 generalize k.format.leastPlace=L at *
 rcases Int.lt_trichotomy i j with hij | rfl | hij
 ·have e1:mv n j=mv (n * 2 ^ (j - i).toNat) i:=by rw[mv_shift];congr 1;omega
  rw[e1,mv_lt]
  have h6:=b3 (by omega)
  have h7:2 ^ 1≤2 ^ (j - i).toNat:=Nat.pow_le_pow_right (by decide) (by omega)
  have h8:B * 2≤n * 2 ^ (j - i).toNat:=Nat.mul_le_mul h6 h7
  omega
 ·rw[mv_lt];omega
 ·exfalso
  have h6:=a3 (by omega)
  have:(i - L).toNat=(j - L).toNat+(i - j).toNat:=by omega
  rw[this,Nat.add_mul] at hl
  have:B≤(i - j).toNat * B:=Nat.le_mul_of_pos_left B (by omega)
  omega
theorem mag_eq {k:FloatKind} {x y:Nat} {s t:Bool} {m n:Nat} {i j:Int} (h:k.decode x = .number s m i) (h':k.decode y = .number t n j) (hl:magOf k x=magOf k y):mv m i=mv n j:=by
 obtain ⟨a1,a2,a3,a4,-⟩:=read_norm h
 obtain ⟨b1,b2,b3,b4,-⟩:=read_norm h'
 unfold magOf at hl
 rw[a4,b4] at hl
 have hB:=binade_pos k
 generalize k.format.binade=B at *
 generalize k.format.leastPlace=L at *
 have:i=j:=by
  rcases Int.lt_trichotomy i j with hij | e | hij
  ·exfalso
   have h6:=b3 (by omega)
   have:(j - L).toNat=(i - L).toNat+(j - i).toNat:=by omega
   rw[this,Nat.add_mul] at hl
   have:B≤(j - i).toNat * B:=Nat.le_mul_of_pos_left B (by omega)
   omega
  ·exact e
  ·exfalso
   have h6:=a3 (by omega)
   have:(i - L).toNat=(j - L).toNat+(i - j).toNat:=by omega
   rw[this,Nat.add_mul] at hl
   have:B≤(i - j).toNat * B:=Nat.le_mul_of_pos_left B (by omega)
   omega
 subst this
 have:m=n:=by omega
 rw[this]
theorem mag_zero {k:FloatKind} {x:Nat} {s:Bool} {m:Nat} {i:Int} (h:k.decode x = .number s m i):(magOf k x=0↔mv m i=0):=by
 obtain ⟨a1,a2,a3,a4,-⟩:=read_norm h
 have hB:=binade_pos k
 unfold magOf
 rw[a4]
 constructor
 ·intro h0
  have:m=0:=by omega
  rw[this,mv_zero]
 ·intro h0
  have hm:m=0:=by
   rcases Nat.eq_zero_or_pos m with e | e
   ·exact e
   ·have h1:mv 0 i<mv m i:=mv_lt.2 e
    rw[mv_zero,h0] at h1
    exact absurd h1 (by decide)
  subst hm
  have:¬ k.format.leastPlace<i:=fun h1=>by have:=a3 h1;omega
  have:(i - k.format.leastPlace).toNat=0:=by omega
  rw[this];simp
theorem compare_int (a b:Int):(a<b∧compare a b = .lt)∨(a=b∧compare a b = .eq)∨(b<a∧compare a b = .gt):=by
 rcases Int.lt_trichotomy a b with h1 | h1 | h1
 ·exact .inl ⟨h1,by simp[compare,compareOfLessAndEq,h1]⟩
 ·subst h1;exact .inr (.inl ⟨rfl,by simp[compare,compareOfLessAndEq]⟩)
 ·exact .inr (.inr ⟨h1,by simp only[compare,compareOfLessAndEq];rw[if_neg (by omega),if_neg (by omega)]⟩)
theorem key_lt_val {k:FloatKind} {x y:Nat} {s t:Bool} {m n:Nat} {i j:Int} (h:k.decode x = .number s m i) (h':k.decode y = .number t n j) (hl:key k x<key k y):sg s (mv m i)<sg t (mv n j):=by
 have hs:=(read_fin h).2
 have ht:=(read_fin h').2
 unfold key at hl
 rw[hs,ht] at hl
 have z1:=mag_zero h
 have z2:=mag_zero h'
 have p1:=mv_nonneg m i
 have p2:=mv_nonneg n j
 cases s <;>cases t <;>simp only[Bool.false_eq_true,if_false,if_true,sg] at hl ⊢
 ·exact mag_lt h h' (by omega)
 ·omega
 ·rcases Nat.eq_zero_or_pos (magOf k y) with e | e
  ·have:0<magOf k x:=by omega
   have:mv m i≠0:=fun h0=>by rw[z1.2 h0] at this;omega
   have h0:=z2.1 e
   rw[h0];grind
  ·have:mv n j≠0:=fun h0=>by rw[z2.2 h0] at e;omega
   grind
 ·have:=mag_lt h' h (by omega)
  grind
theorem key_eq_val {k:FloatKind} {x y:Nat} {s t:Bool} {m n:Nat} {i j:Int} (h:k.decode x = .number s m i) (h':k.decode y = .number t n j) (hl:key k x=key k y):sg s (mv m i)=sg t (mv n j):=by
 have hs:=(read_fin h).2
 have ht:=(read_fin h').2
 unfold key at hl
 rw[hs,ht] at hl
 have z1:=mag_zero h
 have z2:=mag_zero h'
 cases s <;>cases t <;>simp only[Bool.false_eq_true,if_false,if_true,sg] at hl ⊢
 ·exact mag_eq h h' (by omega)
 ·rw[z1.1 (by omega),z2.1 (by omega)];rfl
 ·rw[z1.1 (by omega),z2.1 (by omega)];rfl
 ·rw[mag_eq h h' (by omega)]
theorem order_key {k:FloatKind} {x y:Nat} (hx:isNaN k x=false) (hy:isNaN k y=false):k.format.order x y=some (compare (key k x) (key k y)):=by
 have inf_pos:∀ {z:Nat} {s:Bool},k.decode z = .infinity s→key k z=if s then -(k.format.infRung:Int) else (k.format.infRung:Int):=by
  intro z s h
  obtain ⟨h1,h2⟩:=read_inf h
  unfold key;rw[h1,h2]
 have fin_lt:∀ {z:Nat} {s:Bool} {m:Nat} {e:Int},k.decode z = .number s m e → -(k.format.infRung:Int)<key k z∧key k z<(k.format.infRung:Int):=by
  intro z s m e h
  obtain ⟨h1,h2⟩:=read_fin h
  unfold key;rw[h2]
  cases s <;>simp only[Bool.false_eq_true,if_false,if_true] <;>omega
 have hI:(0:Int)<(k.format.infRung:Int):=by cases k <;>decide
 have lt_c:∀ a b:Int,a<b→compare a b = .lt:=fun a b h=>by rcases compare_int a b with ⟨h1,e⟩ | ⟨h1,e⟩ | ⟨h1,e⟩ <;>first | exact e | omega
 have gt_c:∀ a b:Int,b<a→compare a b = .gt:=fun a b h=>by rcases compare_int a b with ⟨h1,e⟩ | ⟨h1,e⟩ | ⟨h1,e⟩ <;>first | exact e | omega
 have eq_c:∀ a b:Int,a=b→compare a b = .eq:=fun a b h=>by rcases compare_int a b with ⟨h1,e⟩ | ⟨h1,e⟩ | ⟨h1,e⟩ <;>first | exact e | omega
 unfold isNaN at hx hy
 cases h1:k.decode x with
 | nan s f=>rw[h1] at hx;simp[Ieee.Datum.isNaN] at hx
 | infinity s =>
   cases h2:k.decode y with
   | nan s f=>rw[h2] at hy;simp[Ieee.Datum.isNaN] at hy
   | infinity t =>
     have e1:k.format.read x = .infinity s:=h1
     have e2:k.format.read y = .infinity t:=h2
     simp only[Ieee.Format.order,e1,e2,Ieee.Datum.order]
     rw[inf_pos h1,inf_pos h2]
     cases s <;>cases t <;>simp only[Bool.false_eq_true,if_false,if_true]
     ·rw[eq_c _ _ rfl];rfl
     ·rw[gt_c _ _ (by omega)];rfl
     ·rw[lt_c _ _ (by omega)];rfl
     ·rw[eq_c _ _ rfl];rfl
   | number t n j =>
     have e1:k.format.read x = .infinity s:=h1
     have e2:k.format.read y = .number t n j:=h2
     have:=fin_lt h2
     simp only[Ieee.Format.order,e1,e2,Ieee.Datum.order]
     rw[inf_pos h1]
     cases s <;>simp only[Bool.false_eq_true,if_false,if_true]
     ·rw[gt_c _ _ (by omega)]
     ·rw[lt_c _ _ (by omega)]
 | number s m i =>
   cases h2:k.decode y with
   | nan s f=>rw[h2] at hy;simp[Ieee.Datum.isNaN] at hy
   | infinity t =>
     have e1:k.format.read x = .number s m i:=h1
     have e2:k.format.read y = .infinity t:=h2
     have:=fin_lt h1
     simp only[Ieee.Format.order,e1,e2,Ieee.Datum.order]
     rw[inf_pos h2]
     cases t <;>simp only[Bool.false_eq_true,if_false,if_true]
     ·rw[lt_c _ _ (by omega)]
     ·rw[gt_c _ _ (by omega)]
   | number t n j =>
     obtain ⟨o1,o2,o3⟩:=order_val (read_val h1) (read_val h2)
     rcases compare_int (key k x) (key k y) with ⟨h3,e⟩ | ⟨h3,e⟩ | ⟨h3,e⟩
     ·rw[e];exact o1.2 (key_lt_val h1 h2 h3)
     ·rw[e];exact o2.2 (key_eq_val h1 h2 h3)
     ·rw[e];exact o3.2 (key_lt_val h2 h1 h3)
section
variable {k:FloatKind} {x y:Nat}
theorem order_nan (h:isNaN k x=true∨isNaN k y=true):k.format.order x y=none:=by
 unfold isNaN FloatKind.decode at h
 unfold Ieee.Format.order
 rcases h with h | h
 ·cases hr:k.format.read x with
  | nan s t=>simp[Ieee.Datum.order]
  | infinity s=>rw[hr] at h;cases h
  | number s m e=>rw[hr] at h;cases h
 ·cases hr:k.format.read y with
  | nan s t=>cases k.format.read x <;>simp[Ieee.Datum.order]
  | infinity s=>rw[hr] at h;cases h
  | number s m e=>rw[hr] at h;cases h
def num2 (k:FloatKind) (x y:Nat):Bool:=!isNaN k x && !isNaN k y
theorem order_num2:k.format.order x y=if num2 k x y then some (compare (key k x) (key k y)) else none:=by
 unfold num2
 cases hx:isNaN k x
 ·cases hy:isNaN k y
  ·exact order_key hx hy
  ·exact order_nan (.inr hy)
 ·exact order_nan (.inl hx)
theorem feq_key:feq k x y=(num2 k x y&&decide (key k x=key k y)):=by
 unfold feq
 rw[order_num2]
 cases num2 k x y
 ·rfl
 ·rcases compare_int (key k x) (key k y) with ⟨h,e⟩ | ⟨h,e⟩ | ⟨h,e⟩ <;>rw[if_pos rfl,e] <;>simp <;>omega
theorem fle_key:fle k x y=(num2 k x y&&decide (key k x≤key k y)):=by
 unfold fle
 rw[order_num2]
 cases num2 k x y
 ·rfl
 ·rcases compare_int (key k x) (key k y) with ⟨h,e⟩ | ⟨h,e⟩ | ⟨h,e⟩ <;>rw[if_pos rfl,e] <;>simp <;>omega
theorem fge_key:fge k x y=(num2 k x y&&decide (key k y≤key k x)):=by
 unfold fge
 rw[order_num2]
 cases num2 k x y
 ·rfl
 ·rcases compare_int (key k x) (key k y) with ⟨h,e⟩ | ⟨h,e⟩ | ⟨h,e⟩ <;>rw[if_pos rfl,e] <;>simp <;>omega
end
theorem key32 {x:Nat} (h:x<4294967296):key .f32 x=if x<2147483648 then (x:Int) else -((x:Int) - 2147483648):=by
 have hw:FloatKind.f32.format.signWeight=2147483648:=rfl
 unfold key negOf magOf
 rw[hw]
 by_cases c:x<2147483648
 ·rw[if_pos c,Nat.div_eq_of_lt c,Nat.mod_eq_of_lt c];rfl
 ·have:x / 2147483648=1:=by omega
  rw[if_neg c,this,if_pos (by decide)]
  omega
theorem nan32 {x:Nat}:isNaN .f32 x=decide (2139095040<x % 2147483648):=isNaN_f32 x
end Go.Desk
end
section
namespace Go.Desk
open Go
def flushM (x:Nat):Nat:=if x % 2147483648<8388608 then x / 2147483648 * 2147483648 else x
abbrev Filt:=Nat × Nat × Nat × Nat × Nat
abbrev Mem:=Nat × Nat × Nat × Nat
def fl? (b:Bool) (x:Nat):Nat:=if b then flushM x else x
def fstep (f:Filt) (form:Int) (b:Bool) (m:Mem) (x:Nat):Nat × Mem :=
 if form=0 then
  let y:=fl? b (fsub .f32 (fsub .f32 (fadd .f32 (fadd .f32 (fmul .f32 f.1 x) (fmul .f32 f.2.1 m.1)) (fmul .f32 f.2.2.1 m.2.1)) (fmul .f32 f.2.2.2.1 m.2.2.1)) (fmul .f32 f.2.2.2.2 m.2.2.2))
  (y,fl? b x,fl? b m.1,fl? b y,fl? b m.2.2.1)
 else if form=1 then
  let y:=fl? b (fadd .f32 (fmul .f32 f.1 x) m.1)
  (y,fl? b (fadd .f32 (fsub .f32 (fmul .f32 f.2.1 x) (fmul .f32 f.2.2.2.1 y)) m.2.1),fl? b (fsub .f32 (fmul .f32 f.2.2.1 x) (fmul .f32 f.2.2.2.2 y)),fl? b 0,fl? b 0)
 else
  let w:=fl? b (fsub .f32 (fsub .f32 x (fmul .f32 f.2.2.2.1 m.1)) (fmul .f32 f.2.2.2.2 m.2.1))
  (fl? b (fadd .f32 (fadd .f32 (fmul .f32 f.1 w) (fmul .f32 f.2.1 m.1)) (fmul .f32 f.2.2.1 m.2.1)),fl? b w,fl? b m.1,fl? b 0,fl? b 0)
section
variable {σ α β:Type} {f:σ→α→β × σ} {P:σ→Prop} {Q:α→Prop} {S:β→Prop}
end
end Go.Desk
end
section
namespace Go.Desk
open Go
section
variable {p zs:List (Int × Nat)} {z:Int × Nat}
end
def tookM (w:List Nat) (x:Nat):List Nat:=w.drop 1++[x]
end Go.Desk
end
section
namespace Go.Desk
open Go
def fin32 (x:Nat):Bool:=decide (x % 2147483648<2139095040)
theorem fin_num {x:Nat} (h:fin32 x=true):isNaN .f32 x=false:=by
 unfold fin32 at h;rw[nan32];simp at h ⊢;omega
theorem fin_read {x:Nat} (h:fin32 x=true):∃ s m e,FloatKind.f32.decode x = .number s m e:=by
 cases hd:FloatKind.f32.decode x with
 | number s m e=>exact ⟨s,m,e,rfl⟩
 | infinity s =>
   have h1:=(read_inf hd).1
   unfold fin32 at h
   have e1:FloatKind.f32.format.infRung=2139095040:=by decide
   have e2:magOf .f32 x=x % 2147483648:=rfl
   simp at h
   omega
 | nan s t =>
   have:=fin_num h
   unfold isNaN at this
   rw[hd] at this;cases this
theorem fsub_self {x:Nat} (h:fin32 x=true):fsub .f32 x x=0:=by
 obtain ⟨s,m,e,hd⟩:=fin_read h
 have hd:FloatKind.f32.format.read x = .number s m e:=hd
 unfold fsub Ieee.Format.sub
 rw[hd]
 simp only[Ieee.Datum.opposite,Ieee.Datum.sum]
 have e0:Ieee.signed s m (e - min e e).toNat+Ieee.signed (!s) m (e - min e e).toNat=0:=by
  unfold Ieee.signed
  cases s <;>simp <;>omega
 rw[e0]
 cases s <;>rfl
theorem sub_finite (x:Nat):feq .f32 (fsub .f32 x x) 0=fin32 x:=by
 cases h:fin32 x
 ·
  have hN:isNaN .f32 (fsub .f32 x x)=true:=by
   cases hd:FloatKind.f32.decode x with
   | number s m e =>
     have h1:=(read_fin hd).1
     have e1:FloatKind.f32.format.infRung=2139095040:=by decide
     have e2:magOf .f32 x=x % 2147483648:=rfl
     unfold fin32 at h
     simp at h
     omega
   | infinity s =>
     have hd:FloatKind.f32.format.read x = .infinity s:=hd
     unfold fsub Ieee.Format.sub
     rw[hd]
     cases s <;>decide
   | nan s t =>
     have hd:FloatKind.f32.format.read x = .nan s t:=hd
     unfold fsub Ieee.Format.sub
     rw[hd]
     simp only[Ieee.Datum.sum,Option.map_none]
     decide
  rw[feq_key];unfold num2;rw[hN];rfl
 ·rw[fsub_self h];decide
end Go.Desk
end
section
namespace Go.Desk
open Go
theorem sub_val {k:FloatKind} {x y:Nat} {a b B:Rat} (hx:Val k x a) (hy:Val k y b) (hB:Rep0 k B) (hf:B<p2 (topE k)) (h1:a - b≤B) (h2 : -B≤a - b) :
  ∃ R,Val k (fsub k x y) R∧Near k (a - b) R:=by
 obtain ⟨s,m,i,e1,rfl,-⟩:=hx
 obtain ⟨t,n,j,e2,rfl,-⟩:=hy
 have e1:k.format.read x = .number s m i:=e1
 have e2:k.format.read y = .number t n j:=e2
 generalize hb:min i j=base
 generalize ht:Ieee.signed s m (i - base).toNat+Ieee.signed (!t) n (j - base).toNat=total
 have hadd:fsub k x y=k.encode (.number (if total=0 then s && !t else total<0) total.natAbs base):=by
  simp only[fsub,Ieee.Format.sub,e1,e2,Ieee.Datum.opposite,Ieee.Datum.sum,Option.map_some,hb,ht]
  rfl
 have hneg:sg (!t) (mv n j) = -sg t (mv n j):=by cases t <;>simp[sg]
 have hval:sg (if total=0 then s && !t else decide (total<0)) (mv total.natAbs base)=sg s (mv m i) - sg t (mv n j):=by
  rw[Rat.sub_eq_add_neg,← hneg,total_val,← ht,Rat.intCast_add,Rat.add_mul,signed_val,signed_val]
  congr 2 <;>congr 1 <;>omega
 rw[hadd,← hval]
 exact write_val k _ _ _ hB (abs_le (mv_nonneg _ _) (by rw[hval];exact h1) (by rw[hval];exact h2)) hf
theorem write_lt2 (k:FloatKind) (s:Bool) (m:Nat) (e:Int):k.encode (.number s m e)<2 * k.format.signWeight:=write_lt k (by intro _ _ h;cases h)
theorem fadd_lt (k:FloatKind) (x y:Nat):fadd k x y<2 * k.format.signWeight:=by
 unfold fadd Ieee.Format.add
 cases h:(k.format.read x).sum (k.format.read y) with
 | none=>cases k <;>decide
 | some d=>exact write_lt k (fun s t e=>sum_not_nan h s t e)
theorem fmul_lt (k:FloatKind) (x y:Nat):fmul k x y<2 * k.format.signWeight:=by
 unfold fmul Ieee.Format.mul
 cases h:(k.format.read x).product (k.format.read y) with
 | none=>cases k <;>decide
 | some d=>exact write_lt k (fun s t e=>product_not_nan h s t e)
theorem nearest_lt (k:FloatKind) (n:Int):k.nearest n<2 * k.format.signWeight:=write_lt2 k _ _ _
theorem word_of_val {k:FloatKind} {x y:Nat} {a:Rat} (hx:x<2 * k.format.signWeight) (hy:y<2 * k.format.signWeight) (h1:Val k x a) (h2:Val k y a) (ha:a≠0):x=y:=by
 obtain ⟨s,m,i,e1,h3,-⟩:=h1
 obtain ⟨t,n,j,e2,h4,-⟩:=h2
 have p1:=mv_nonneg m i
 have p2:=mv_nonneg n j
 have hst:s=t:=by
  cases s <;>cases t <;>simp only[sg_true,sg_false] at h3 h4 <;>first | rfl | (exfalso;grind)
 subst hst
 refine word_inj hx hy e1 e2 ?_
 cases s <;>simp only[sg_true,sg_false] at h3 h4 <;>grind
theorem rep_nat (k:FloatKind) {B:Nat} (hB:B≤2 * k.format.binade):Rep0 k (B:Rat):=by
 refine ⟨B,0,hB,by cases k <;>decide,?_⟩
 unfold mv;rw[p2_zero,Rat.mul_one]
theorem nat_top (k:FloatKind) {B:Nat} (hB:B≤2 * k.format.binade):(B:Rat)<p2 (topE k):=by
 have h1:(B:Rat)≤((2 * k.format.binade:Nat):Rat):=by exact_mod_cast hB
 have h2:((2 * k.format.binade:Nat):Rat)<p2 (topE k):=by
  have:∃ j:Nat,2 * k.format.binade=2 ^ j∧(j:Int)<topE k:=by
   cases k
   ·exact ⟨24,by decide,by decide⟩
   ·exact ⟨53,by decide,by decide⟩
  obtain ⟨j,e,h⟩:=this
  rw[e,← p2_nat]
  exact p2_lt h
 exact rlt h1 h2
theorem int_rep {k:FloatKind} {n:Int} (hn:n.natAbs≤2 * k.format.binade):Rep k (n:Rat):=(int_val hn).rep
theorem int_abs {n:Int}:(n:Rat)≤((n.natAbs:Nat):Rat) ∧ -((n.natAbs:Nat):Rat)≤(n:Rat):=by
 have h1:n≤((n.natAbs:Nat):Int):=by omega
 have h2 : -((n.natAbs:Nat):Int)≤n:=by omega
 have e:((n.natAbs:Nat):Rat)=(((n.natAbs:Nat):Int):Rat):=(Rat.intCast_natCast _).symm
 rw[e]
 refine ⟨Rat.intCast_le_intCast.2 h1,?_⟩
 rw[← Rat.intCast_neg]
 exact Rat.intCast_le_intCast.2 h2
theorem nearest_zero (k:FloatKind):k.nearest 0=0:=by cases k <;>decide
theorem int_add {k:FloatKind} {a b:Int} (ha:a.natAbs≤2 * k.format.binade) (hb:b.natAbs≤2 * k.format.binade) (hab:(a+b).natAbs≤2 * k.format.binade):fadd k (k.nearest a) (k.nearest b)=k.nearest (a+b):=by
 have va:=int_val (k:=k) ha
 have vb:=int_val (k:=k) hb
 by_cases h0:a+b=0
 ·rw[h0,nearest_zero]
  obtain ⟨s,m,i,e1,h1,-⟩:=va
  obtain ⟨t,n,j,e2,h2,-⟩:=vb
  have p1:=mv_nonneg m i
  have p2' :=mv_nonneg n j
  have hbv:(b:Rat) = -(a:Rat):=by
   have:b = -a:=by omega
   rw[this,Rat.intCast_neg]
  have hst:(s&&t)=false:=by
   by_cases h:a=0
   ·subst h
    rw[nearest_zero] at e1
    have:k.decode 0 = .number false 0 k.format.leastPlace:=by cases k <;>decide
    rw[this] at e1
    cases e1;rfl
   ·have hne:(a:Rat)≠0:=by exact_mod_cast h
    cases s <;>cases t <;>simp only[sg_true,sg_false] at h1 h2 <;>first | rfl | (exfalso;grind)
  have e1:k.format.read (k.nearest a) = .number s m i:=e1
  have e2:k.format.read (k.nearest b) = .number t n j:=e2
  generalize hbase:min i j=base
  have ht:Ieee.signed s m (i - base).toNat+Ieee.signed t n (j - base).toNat=0:=by
   have h3:((Ieee.signed s m (i - base).toNat+Ieee.signed t n (j - base).toNat:Int):Rat) * p2 base=0:=by
    rw[Rat.intCast_add,Rat.add_mul,signed_val,signed_val]
    rw[show base+((i - base).toNat:Int)=i by omega,show base+((j - base).toNat:Int)=j by omega,← h1,← h2,hbv]
    grind
   have h4:=p2_pos base
   have h5:((Ieee.signed s m (i - base).toNat+Ieee.signed t n (j - base).toNat:Int):Rat)=0:=by
    rcases Rat.mul_eq_zero.1 h3 with h | h
    ·exact h
    ·rw[h] at h4;exact absurd h4 (by decide)
   exact_mod_cast h5
  simp only[fadd,Ieee.Format.add,e1,e2,Ieee.Datum.sum,Option.map_some,hbase,ht,hst]
  rfl
 ·have hv:(a:Rat)+(b:Rat)=((a+b:Int):Rat):=(Rat.intCast_add _ _).symm
  obtain ⟨h1,h2⟩:=int_abs (n:=a+b)
  obtain ⟨R,h3,h4⟩:=add_val va vb (rep_nat k hab) (nat_top k hab) (by rw[hv];exact h1) (by rw[hv];exact h2)
  rw[hv] at h4
  have h5:=h3.near_eq h4 (int_rep hab)
  exact word_of_val (fadd_lt _ _ _) (nearest_lt _ _) h5 (int_val hab) (by exact_mod_cast h0)
def Bd (k:FloatKind) (x:Nat) (B:Nat):Prop:=∃ v:Rat,Val k x v ∧ -(B:Rat)≤v∧v≤(B:Rat)
theorem Near.bd {k:FloatKind} {v R:Rat} {B:Nat} (h:Near k v R) (hB:B≤2 * k.format.binade) (h1:v≤(B:Rat)) (h2 : -(B:Rat)≤v) : -(B:Rat)≤R∧R≤(B:Rat) :=
 ⟨(h _ (rep_nat k hB).neg).2 h2,(h _ (rep_nat k hB).rep).1 h1⟩
theorem Bd.add {k:FloatKind} {x y A B:Nat} (hx:Bd k x A) (hy:Bd k y B) (h:A+B≤2 * k.format.binade):Bd k (fadd k x y) (A+B):=by
 obtain ⟨v,h1,h2,h3⟩:=hx
 obtain ⟨w,h4,h5,h6⟩:=hy
 have e:=Rat.natCast_add A B
 have g1:v+w≤((A+B:Nat):Rat):=by rw[e];grind
 have g2 : -((A+B:Nat):Rat)≤v+w:=by rw[e];grind
 obtain ⟨R,q1,q2⟩:=add_val h1 h4 (rep_nat k h) (nat_top k h) g1 g2
 exact ⟨R,q1,q2.bd h g1 g2⟩
theorem Bd.sub {k:FloatKind} {x y A B:Nat} (hx:Bd k x A) (hy:Bd k y B) (h:A+B≤2 * k.format.binade):Bd k (fsub k x y) (A+B):=by
 obtain ⟨v,h1,h2,h3⟩:=hx
 obtain ⟨w,h4,h5,h6⟩:=hy
 have e:=Rat.natCast_add A B
 have g1:v - w≤((A+B:Nat):Rat):=by rw[e];grind
 have g2 : -((A+B:Nat):Rat)≤v - w:=by rw[e];grind
 obtain ⟨R,q1,q2⟩:=sub_val h1 h4 (rep_nat k h) (nat_top k h) g1 g2
 exact ⟨R,q1,q2.bd h g1 g2⟩
theorem mul_between {v w A B:Rat} (hA:0≤A) (hB:0≤B) (h1 : -A≤v) (h2:v≤A) (h3 : -B≤w) (h4:w≤B) : -(A * B)≤v * w∧v * w≤A * B:=by
 have key:∀ v w:Rat,0≤v→0≤w→v≤A→w≤B→0≤v * w∧v * w≤A * B:=fun v w a b c d =>
  ⟨Rat.mul_nonneg a b,Rat.le_trans (Rat.mul_le_mul_of_nonneg_right c b) (Rat.mul_le_mul_of_nonneg_left d hA)⟩
 rcases (Rat.le_total:(0:Rat)≤v∨v≤0) with hv | hv <;>rcases (Rat.le_total:(0:Rat)≤w∨w≤0) with hw | hw
 ·have:=key v w hv hw h2 h4;grind
 ·have:=key v (-w) hv (by grind) h2 (by grind);grind
 ·have:=key (-v) w (by grind) hw (by grind) h4;grind
 ·have:=key (-v) (-w) (by grind) (by grind) (by grind) (by grind);grind
theorem Bd.mul {k:FloatKind} {x y A B:Nat} (hx:Bd k x A) (hy:Bd k y B) (h:A * B≤2 * k.format.binade):Bd k (fmul k x y) (A * B):=by
 obtain ⟨v,h1,h2,h3⟩:=hx
 obtain ⟨w,h4,h5,h6⟩:=hy
 have e:=Rat.natCast_mul A B
 have hA:(0:Rat)≤(A:Rat):=by exact_mod_cast Nat.zero_le A
 have hB:(0:Rat)≤(B:Rat):=by exact_mod_cast Nat.zero_le B
 obtain ⟨g2,g1⟩:=mul_between hA hB h2 h3 h5 h6
 rw[← e] at g1 g2
 obtain ⟨R,q1,q2⟩:=mul_val h1 h4 (rep_nat k h) (nat_top k h) g1 g2
 exact ⟨R,q1,q2.bd h g1 g2⟩
theorem Bd.div {k:FloatKind} {x y A:Nat} {w:Rat} (hx:Bd k x A) (hy:Val k y w) (hw:1≤w) (h:A≤2 * k.format.binade):Bd k (fdiv k x y) A:=by
 obtain ⟨v,h1,h2,h3⟩:=hx
 have hA:(0:Rat)≤(A:Rat):=by exact_mod_cast Nat.zero_le A
 have hw0:w≠0:=by grind
 have hpos:0<w:=by grind
 have hq:v / w * w=v:=Rat.div_mul_cancel hw0
 have hAw:(A:Rat) * 1≤(A:Rat) * w:=Rat.mul_le_mul_of_nonneg_left hw hA
 have g1:v / w≤(A:Rat):=by
  refine Rat.not_lt.1 fun h => ?_
  have:=(Rat.mul_lt_mul_right hpos).2 h
  grind
 have g2 : -(A:Rat)≤v / w:=by
  refine Rat.not_lt.1 fun h => ?_
  have:=(Rat.mul_lt_mul_right hpos).2 h
  grind
 obtain ⟨R,q1,q2⟩:=div_val h1 hy hw0 (rep_nat k h) (nat_top k h) g1 g2
 exact ⟨R,q1,q2.bd h g1 g2⟩
theorem Bd.int {k:FloatKind} {n:Int} {B:Nat} (h:n.natAbs≤B) (hB:B≤2 * k.format.binade):Bd k (k.nearest n) B:=by
 obtain ⟨h1,h2⟩:=int_abs (n:=n)
 have:((n.natAbs:Nat):Rat)≤(B:Rat):=by exact_mod_cast h
 exact ⟨_,int_val (by omega),by grind,by grind⟩
theorem Bd.even {x B:Nat} (h:Bd .f64 x B) (hB:B≤2 * FloatKind.f64.format.binade):Bd .f64 (integralF .even x) B:=by
 obtain ⟨v,⟨s,m,i,e1,rfl,-⟩,h2,h3⟩:=h
 have hv:=mv_nonneg m i
 have hmv:mv m i≤(B:Rat):=by cases s <;>simp only[sg_true,sg_false] at h2 h3 <;>grind
 have hn:m <<< i.toNat≤B * 2 ^ (-i).toNat:=by
  rw[Nat.shiftLeft_eq]
  have h4:mv (m * 2 ^ i.toNat) (-((-i).toNat:Int))≤mv (B * 2 ^ (-i).toNat) (-((-i).toNat:Int)):=by
   rw[mv_shift,mv_shift]
   rw[show -((-i).toNat:Int)+(i.toNat:Int)=i by omega,show -((-i).toNat:Int)+((-i).toNat:Int)=0 by omega]
   have e0:mv B 0=(B:Rat):=by unfold mv;rw[p2_zero,Rat.mul_one]
   rw[e0];exact hmv
  exact mv_le.1 h4
 have hc:=(cut_bounds s (m <<< i.toNat) (-i).toNat B).1 hn
 have e2:integralF .even x=FloatKind.f64.encode (.number s (Ieee.Toward.cut .even s (m <<< i.toNat) (-i).toNat) 0):=by
  unfold integralF;rw[e1];rfl
 rw[e2]
 generalize Ieee.Toward.cut .even s (m <<< i.toNat) (-i).toNat=c at *
 have hcb:c≤2 * FloatKind.f64.format.binade:=by omega
 have e3:mv c 0=(c:Rat):=by unfold mv;rw[p2_zero,Rat.mul_one]
 have e4:(c:Rat)≤(B:Rat):=by exact_mod_cast hc
 have e5:(0:Rat)≤(c:Rat):=by exact_mod_cast Nat.zero_le c
 obtain ⟨m',e',q1,q2⟩:=exact_write .f64 s (m:=c) (e:=0) (by rw[e3];exact rep_nat .f64 hcb) (by rw[e3];exact nat_top .f64 hcb)
 refine ⟨_,read_val q1,?_,?_⟩ <;>rw[q2,e3] <;>cases s <;>simp only[sg_true,sg_false] <;>grind
end Go.Desk
end
section
namespace Go.Desk
open Go
theorem fin_val {x:Nat} (h:fin32 x=true):Val .f32 x (fval .f32 x):=by
 obtain ⟨s,m,e,hd⟩:=fin_read h
 have:=read_val hd
 unfold fval;rw[hd];exact this
theorem Val.fval {k:FloatKind} {x:Nat} {v:Rat} (h:Val k x v):Go.Desk.fval k x=v:=by
 obtain ⟨s,m,e,h1,h2,-⟩:=h
 unfold Go.Desk.fval;rw[h1];exact h2.symm
theorem Val.fin {x:Nat} {v:Rat} (h:Val .f32 x v):fin32 x=true:=by
 obtain ⟨s,m,e,h1,-⟩:=h
 have:=(read_fin h1).1
 unfold fin32
 exact decide_eq_true this
theorem size_val {x:Nat} {v:Rat} (hx:W32 x) (h:Val .f32 x v):(0≤v→Val .f32 (size32 x) v)∧(v≤0→Val .f32 (size32 x) (-v)):=by
 have hn:=h.num
 obtain ⟨s,m,e,h1,rfl,h2,h3⟩:=h
 have hs:size32 x=x % 2147483648:=by unfold size32;rw[hn];rfl
 have h4:FloatKind.f32.decode (size32 x) = .number false m e:=by rw[hs];exact decode_size.1 s m e h1
 have h5:=read_val h4
 have hnn:=mv_nonneg m e
 rw[sg_false] at h5
 constructor
 ·intro h
  cases s <;>simp only[sg_true,sg_false] at h ⊢
  ·exact h5
  ·have:mv m e=0:=by grind
   rw[this] at h5 ⊢;simpa using h5
 ·intro h
  cases s <;>simp only[sg_true,sg_false] at h ⊢
  ·have:mv m e=0:=by grind
   rw[this] at h5 ⊢;simpa using h5
  ·rw[Rat.neg_neg];exact h5
def plainOk (x:Nat):Bool:=fin32 x&&(x % 2147483648==0||(decide (1031798784≤x % 2147483648)&&decide (x % 2147483648≤1091829760)))
theorem plain_tab:∀ m:Nat,m<129→(plainOk (fdiv .f32 (FloatKind.f32.nearest ((m:Int) - 64)) 1088421888)&&plainOk (fdiv .f32 (FloatKind.f32.nearest ((m:Int) - 64)) 1098907648))=true:=by decide +kernel
theorem Plain.ok {x:Nat} (h:Plain x):plainOk x=true:=by
 obtain ⟨m,hm,h⟩:=h
 obtain ⟨k,hk⟩:=Int.eq_ofNat_of_zero_le (show 0≤m+64 by omega)
 have hm':m=(k:Int) - 64:=by omega
 have:=plain_tab k (by omega)
 rw[← hm',Bool.and_eq_true] at this
 rcases h with rfl | rfl
 ·exact this.1
 ·exact this.2
theorem Plain.fin {x:Nat} (h:Plain x):fin32 x=true:=by
 have:=h.ok
 unfold plainOk at this
 rw[Bool.and_eq_true] at this
 exact this.1
theorem val_const (x:Nat) (s:Bool) (m:Nat) (e:Int) (h:FloatKind.f32.decode x = .number s m e):Val .f32 x (sg s (mv m e)):=read_val h
theorem Plain.val {x:Nat} (h:Plain x):∃ v,Val .f32 (size32 x) v∧(v=0∨1 / 16≤v)∧0≤v∧v≤10∧(fval .f32 x=v∨fval .f32 x = -v):=by
 have hf:=h.fin
 have hok:=h.ok
 have hw:=h.w32
 have hv:=fin_val hf
 obtain ⟨s1,s2⟩:=size_val hw hv
 have hn:=fin_num hf
 have hs:size32 x=x % 2147483648:=by unfold size32;rw[hn];rfl
 have hex:∃ v,Val .f32 (size32 x) v∧0≤v∧(fval .f32 x=v∨fval .f32 x = -v):=by
  rcases (Rat.le_total:(0:Rat)≤fval .f32 x∨fval .f32 x≤0) with h1 | h1
  ·exact ⟨_,s1 h1,h1,.inl rfl⟩
  ·exact ⟨_,s2 h1,by grind,.inr (by grind)⟩
 obtain ⟨v,q1,q2,q3⟩:=hex
 refine ⟨v,q1,?_,q2,?_,q3⟩
 ·unfold plainOk at hok
  simp only[Bool.and_eq_true,Bool.or_eq_true,beq_iff_eq,decide_eq_true_eq] at hok
  rcases hok.2 with h0 | ⟨h1,-⟩
  ·rw[← hs] at h0
   rw[h0] at q1
   exact .inl (q1.inj (val_zero .f32))
  ·refine .inr ?_
   have hc:Val .f32 1031798784 (1 / 16):=by
    have:=val_const 1031798784 false (2 ^ 23) (-27) (by decide)
    rw[sg_false,mv_pow] at this
    have e:p2 (-27+((23:Nat):Int)) * 16=1:=by
     have h4:=p2_add (-27+((23:Nat):Int)) 4
     have h16:p2 4=16:=by have:=p2_nat 4;rw[show ((4:Nat):Int)=4 from rfl] at this;rw[this];rfl
     rw[h16] at h4;rw[← h4,show (-27:Int)+((23:Nat):Int)+4=0 by decide,p2_zero]
    have e2:p2 (-27+((23:Nat):Int))=1 / 16:=by grind
    rw[e2] at this;exact this
   have:=(fge_val q1 hc).1 (by
    rw[fge_key];unfold num2
    rw[q1.num,hc.num,key32 (by omega),key32 (by omega),if_pos (by omega),if_pos (by omega)]
    simp;omega)
   exact this
 ·unfold plainOk at hok
  simp only[Bool.and_eq_true,Bool.or_eq_true,beq_iff_eq,decide_eq_true_eq] at hok
  have hle:x % 2147483648≤1091829760:=by rcases hok.2 with h0 | ⟨-,h1⟩ <;>omega
  have hc:Val .f32 1092616192 10:=by
   have:=int_val (k:=.f32) (n:=10) (by decide)
   rwa [show FloatKind.f32.nearest 10=1092616192 by decide] at this
  refine (fle_val q1 hc).1 ?_
  rw[fle_key];unfold num2
  rw[q1.num,hc.num,key32 (by omega),key32 (by omega),if_pos (by omega),if_pos (by omega)]
  simp;omega
end Go.Desk
end
section
namespace Go.Desk
open Go
def levelM (at_ re:Nat) (l x:Nat):Nat:=flushM (fadd .f32 l (fmul .f32 (if fgt .f32 (size32 x) l then at_ else re) (fsub .f32 (size32 x) l)))
def gainM (l t r:Nat):Nat:=if fgt .f32 l t then fdiv .f32 (fadd .f32 t (fdiv .f32 (fsub .f32 l t) r)) l else 1065353216
def duckStep (a r t q:Nat) (l:Nat) (x:Nat × Nat):Nat × Nat:=(fmul .f32 x.1 (gainM (levelM a r l x.2) t q),levelM a r l x.2)
theorem binade32:2 * FloatKind.f32.format.binade=16777216:=by decide
end Go.Desk
end
section
namespace Go.Desk
open Go
def headM (w:List Nat):Nat:=w.getD 0 0
def AllW (w:List Nat):Prop:=∀ y∈w,W32 y
theorem int_mul {a b:Int} (ha:a.natAbs≤16777216) (hb:b.natAbs≤16777216) (hab:(a * b).natAbs≤16777216) (h0:a * b≠0):fmul .f32 (FloatKind.f32.nearest a) (FloatKind.f32.nearest b)=FloatKind.f32.nearest (a * b):=by
 have b32:2 * FloatKind.f32.format.binade=16777216:=binade32
 have va:=int_val (k:=.f32) (n:=a) (by rw[b32];exact ha)
 have vb:=int_val (k:=.f32) (n:=b) (by rw[b32];exact hb)
 have hab':(a * b).natAbs≤2 * FloatKind.f32.format.binade:=by rw[b32];exact hab
 have hv:(a:Rat) * (b:Rat)=((a * b:Int):Rat):=(Rat.intCast_mul _ _).symm
 obtain ⟨h1,h2⟩:=int_abs (n:=a * b)
 obtain ⟨R,h3,h4⟩:=mul_val va vb (rep_nat .f32 hab') (nat_top .f32 hab') (by rw[hv];exact h1) (by rw[hv];exact h2)
 rw[hv] at h4
 have h5:=h3.near_eq h4 (int_rep hab')
 exact word_of_val (fmul_lt _ _ _) (nearest_lt _ _) h5 (int_val hab') (by exact_mod_cast h0)
theorem nearest_one:FloatKind.f32.nearest 1=1065353216:=by decide
theorem one_mul {a:Int} (h : -1000000≤a∧a≤1000000):fmul .f32 1065353216 (FloatKind.f32.nearest a)=FloatKind.f32.nearest a:=by
 by_cases h0:a=0
 ·subst h0;decide
 ·have:=int_mul (a:=1) (b:=a) (by decide) (by omega) (by omega) (by omega)
  rw[nearest_one,Int.one_mul] at this
  exact this
theorem small_bin {a:Int} (h : -1000000≤a∧a≤1000000):a.natAbs≤2 * FloatKind.f32.format.binade:=by
 rw[show 2 * FloatKind.f32.format.binade=16777216 from binade32];omega
theorem add_zero {a:Int} (h : -1000000≤a∧a≤1000000):fadd .f32 (FloatKind.f32.nearest a) 0=FloatKind.f32.nearest a:=by
 have:=int_add (k:=.f32) (a:=a) (b:=0) (small_bin h) (by decide) (by simpa using small_bin h)
 rw[nearest_zero] at this
 simpa using this
end Go.Desk
namespace Go.Desk
open Go
end Go.Desk
end
noncomputable section
namespace Go.Proofs.Ytdobhipbgpiceaa.D
open Go Go.Desk
def bodyOf (f:Func):Code:=match f.body with
 | some c=>c
 | none => .skip
def tyTab:List (Nat × TD):=[
 (2,⟨false,1,8,[.leaf],[.int .i64 0],.int .i64⟩),
 (3,⟨false,1,8,[.leaf],[.int .i64 0],.int .i64⟩),
 (4,⟨false,1,1,[.leaf],[.bool false],.bool⟩),
 (24,⟨false,1,24,[.sl .own [.leaf]],[.lst 0 []],.slc 29⟩),
 (29,⟨false,1,4,[.leaf],[.flt .f32 0],.flt .f32⟩),
 (34,⟨false,1,8,[.leaf],[.flt .f64 0],.flt .f64⟩),
 (35,⟨false,1,24,[.sl .own [.leaf,.leaf,.sl .own [.leaf]]],[.lst 0 []],.slc 54⟩),
 (54,⟨true,3,40,[.leaf,.leaf,.sl .own [.leaf]],[.int .i64 0,.int .i64 0,.lst 0 []],.st [(0,2),(1,2),(2,24)]⟩),
 (83,⟨false,1,24,[.sl .own [.leaf,.leaf,.sl .own [.leaf]]],[.lst 0 []],.slc 91⟩),
 (84,⟨false,1,24,[.sl .own [.sl .own [.leaf,.leaf,.sl .own [.leaf]],.leaf,.leaf,.leaf,.leaf]],[.lst 0 []],.slc 161⟩),
 (86,⟨true,2,48,[.sl .own [.leaf,.leaf,.sl .own [.leaf]],.sl .own [.sl .own [.leaf,.leaf,.sl .own [.leaf]],.leaf,.leaf,.leaf,.leaf]],[.lst 0 [],.lst 0 []],.st [(0,83),(1,84)]⟩),
 (91,⟨true,3,40,[.leaf,.leaf,.sl .own [.leaf]],[.int .i64 0,.int .i64 0,.lst 0 []],.st [(0,2),(1,2),(2,24)]⟩),
 (94,⟨false,1,24,[.sl .own [.leaf,.leaf,.sl .own [.leaf]]],[.lst 0 []],.slc 191⟩),
 (95,⟨false,1,24,[.sl .own [.sl .own [.leaf,.leaf,.sl .own [.leaf]],.leaf,.leaf,.leaf,.leaf]],[.lst 0 []],.slc 195⟩),
 (97,⟨true,2,48,[.sl .own [.leaf,.leaf,.sl .own [.leaf]],.sl .own [.sl .own [.leaf,.leaf,.sl .own [.leaf]],.leaf,.leaf,.leaf,.leaf]],[.lst 0 [],.lst 0 []],.st [(0,94),(1,95)]⟩),
 (146,⟨false,1,8,[.leaf],[.nil],.ptr 86⟩),
 (149,⟨false,1,8,[.leaf],[.nil],.ptr 91⟩),
 (161,⟨true,5,40,[.sl .own [.leaf,.leaf,.sl .own [.leaf]],.leaf,.leaf,.leaf,.leaf],[.lst 0 [],.int .i64 0,.flt .f32 0,.bool false,.bool false],.st [(0,35),(1,2),(2,29),(3,4),(4,4)]⟩),
 (185,⟨true,5,40,[.sl .own [.leaf],.leaf,.leaf,.leaf,.leaf],[.lst 0 [],.int .i64 0,.flt .f32 0,.bool false,.bool false],.st [(0,24),(1,2),(2,29),(3,4),(4,4)]⟩),
 (187,⟨false,1,8,[.leaf],[.nil],.ptr 161⟩),
 (189,⟨false,1,24,[.sl .own [.sl .own [.leaf],.leaf,.leaf,.leaf,.leaf]],[.lst 0 []],.slc 185⟩),
 (191,⟨true,3,40,[.leaf,.leaf,.sl .own [.leaf]],[.int .i64 0,.int .i64 0,.lst 0 []],.st [(0,2),(1,2),(2,24)]⟩),
 (193,⟨false,1,24,[.sl .own [.leaf,.leaf,.sl .own [.leaf]]],[.lst 0 []],.slc 235⟩),
 (195,⟨true,5,40,[.sl .own [.leaf,.leaf,.sl .own [.leaf]],.leaf,.leaf,.leaf,.leaf],[.lst 0 [],.int .i64 0,.flt .f32 0,.bool false,.bool false],.st [(0,193),(1,2),(2,29),(3,4),(4,4)]⟩),
 (224,⟨false,1,8,[.leaf],[.nil],.ptr 54⟩),
 (235,⟨true,3,40,[.leaf,.leaf,.sl .own [.leaf]],[.int .i64 0,.int .i64 0,.lst 0 []],.st [(0,2),(1,2),(2,24)]⟩)]
def c9:Code:=bodyOf Try.f9
def c23:Code:=bodyOf Try.f23
def c53:Code:=bodyOf Try.f53
def c54:Code:=bodyOf Try.f54
def c55:Code:=bodyOf Try.f55
def c56:Code:=bodyOf Try.f56
def c57:Code:=bodyOf Try.f57
def c58:Code:=bodyOf Try.f58
def c59:Code:=bodyOf Try.f59
def c66:Code:=bodyOf Try.f66
def c67:Code:=bodyOf Try.f67
def c76:Code:=bodyOf Try.f76
def c78:Code:=bodyOf Try.f78
def c81:Code:=bodyOf Try.f81
def c83:Code:=bodyOf Try.f83
def c84:Code:=bodyOf Try.f84
def c87:Code:=bodyOf Try.f87
def c89:Code:=bodyOf Try.f89
def c101:Code:=bodyOf Try.f101
def c102:Code:=bodyOf Try.f102
def c103:Code:=bodyOf Try.f103
def c104:Code:=bodyOf Try.f104
def c105:Code:=bodyOf Try.f105
def c106:Code:=bodyOf Try.f106
def c107:Code:=bodyOf Try.f107
def c108:Code:=bodyOf Try.f108
def c109:Code:=bodyOf Try.f109
def c110:Code:=bodyOf Try.f110
def c111:Code:=bodyOf Try.f111
def c112:Code:=bodyOf Try.f112
def c113:Code:=bodyOf Try.f113
def c114:Code:=bodyOf Try.f114
def c115:Code:=bodyOf Try.f115
def c116:Code:=bodyOf Try.f116
def c117:Code:=bodyOf Try.f117
def c118:Code:=bodyOf Try.f118
def c119:Code:=bodyOf Try.f119
def c133:Code:=bodyOf Try.f133
def c136:Code:=bodyOf Try.f136
def c137:Code:=bodyOf Try.f137
def c143:Code:=bodyOf Try.f143
def c144:Code:=bodyOf Try.f144
def c145:Code:=bodyOf Try.f145
def c146:Code:=bodyOf Try.f146
def c147:Code:=bodyOf Try.f147
def c148:Code:=bodyOf Try.f148
def c149:Code:=bodyOf Try.f149
def c150:Code:=bodyOf Try.f150
def c151:Code:=bodyOf Try.f151
def c152:Code:=bodyOf Try.f152
def c153:Code:=bodyOf Try.f153
def c154:Code:=bodyOf Try.f154
def c155:Code:=bodyOf Try.f155
def c156:Code:=bodyOf Try.f156
def c157:Code:=bodyOf Try.f157
def c158:Code:=bodyOf Try.f158
def c159:Code:=bodyOf Try.f159
def c174:Code:=bodyOf Try.f174
def c177:Code:=bodyOf Try.f177
def c178:Code:=bodyOf Try.f178
def c179:Code:=bodyOf Try.f179
def c180:Code:=bodyOf Try.f180
def c181:Code:=bodyOf Try.f181
def c182:Code:=bodyOf Try.f182
def c183:Code:=bodyOf Try.f183
def c184:Code:=bodyOf Try.f184
def c185:Code:=bodyOf Try.f185
def c194:Code:=bodyOf Try.f194
def c195:Code:=bodyOf Try.f195
def c196:Code:=bodyOf Try.f196
def c197:Code:=bodyOf Try.f197
def c205:Code:=bodyOf Try.f205
def fnTab:List (Nat × FD):=[
 (9,.code c9 [.val,.val,.val] [] [(6,none)] [(0,[0,1,2]),(1,[1,2,3]),(2,[1,2,3,7]),(3,[1,2,3,7]),(4,[]),(5,[1,2,3]),(6,[1,2,3,8,9]),(7,[1,2,3,8,9,10]),(8,[1,2,3,8,9,10,11,12]),(9,[]),(10,[1,2,3,8,9,10,11,12]),(11,[]),(12,[1,2,3,8,9,10,11,12]),(13,[1,2,3,8,9,10,11,12,13]),(14,[1,2,3,8,9,11,12,13]),(15,[]),(16,[1,2,3,8,9,11]),(17,[1,2,3,8,9,11,14]),(18,[1,2,3,8,9,11,14]),(19,[1,2,3,8,9,11,14,15]),(20,[1,2,3,8,9,11,14,15]),(21,[]),(22,[1,2,3,8,9,11,14,15]),(23,[]),(24,[1,2,3,8,9,11,14]),(25,[8,9,11,14,16,17]),(26,[]),(27,[11,14]),(28,[11,14,15]),(29,[14,15]),(30,[]),(31,[14,15]),(32,[]),(33,[])]),
 (23,.code c23 [.val] [] [(2,none)] [(0,[0]),(1,[0]),(2,[]),(3,[0]),(4,[0,8,9,10]),(5,[0,8,9,10]),(6,[0,4,8,9,10]),(7,[]),(8,[0,8,9,10]),(9,[]),(1000004,[2])]),
 (53,.code c53 [.val,.val,.val] [] [(6,some (true,2)),(7,none)] [(0,[0,1,2]),(1,[1,2,3,6]),(2,[6]),(3,[1,2,3,6]),(4,[1,2,3,6,8]),(5,[2,6,8,9]),(6,[2,6,8,9]),(7,[2,6,8,9]),(8,[2,6,8,9]),(9,[6,8]),(1000005,[6,8])]),
 (54,.code c54 [.val,.val,.val] [] [(6,some (true,2)),(7,none)] [(0,[0,1,2]),(1,[1,2,3,6]),(2,[6]),(3,[1,2,3,6]),(4,[1,2,3,6,8]),(5,[1,2,3,6,8,9]),(6,[1,2,3,6,8,9]),(7,[1,2,3,6,8,9]),(8,[1,2,3,6,8,9,10]),(9,[1,2,3,6,8,9,10]),(10,[6,8]),(11,[6]),(12,[6,8]),(1000005,[6,8])]),
 (55,.code c55 [.val,.val] [] [(4,none)] [(0,[0,1]),(1,[1,2]),(2,[1,2]),(3,[]),(4,[1,2]),(5,[1]),(6,[]),(7,[1])]),
 (56,.code c56 [.val] [] [(2,some (true,2))] [(0,[0]),(1,[1,2]),(2,[1,2,3]),(3,[1,2,3]),(4,[2,3])]),
 (57,.code c57 [.val,.val] [] [(4,none)] [(0,[0,1]),(1,[2,3]),(2,[]),(3,[2,3]),(4,[]),(5,[])]),
 (58,.code c58 [.io,.val] [2] [(4,none)] [(0,[0,1]),(1,[1,2]),(2,[1,2]),(3,[1,2])]),
 (59,.code c59 [.val,.val] [] [(4,none)] [(0,[0,1]),(1,[1,2]),(2,[1,2]),(3,[]),(4,[1,2]),(5,[1]),(6,[]),(7,[1])]),
 (66,.code c66 [.val] [] [(2,none)] [(0,[0]),(1,[0])]),
 (67,.code c67 [.val,.val,.val] [] [(6,none)] [(0,[0,1,2]),(1,[0,1,2])]),
 (76,.code c76 [.val] [] [(2,none)] [(0,[0]),(1,[1]),(2,[1,4]),(3,[1,4]),(4,[1]),(5,[1,4]),(6,[1]),(7,[1,4]),(8,[1]),(9,[1,4]),(10,[1]),(11,[1,4]),(12,[1]),(13,[1,4]),(14,[1]),(15,[])]),
 (78,.code c78 [.val] [] [(2,none)] [(0,[0]),(1,[0]),(2,[0,3]),(3,[0,3,6,7,8]),(4,[0,3,6,7,8]),(5,[0,3,5,6,7,8]),(6,[0,3,5,6,7,8]),(7,[0,3,6,7,8]),(8,[3]),(1000003,[3])]),
 (81,.code c81 [.val] [] [(2,none)] [(0,[0]),(1,[0])]),
 (83,.code c83 [.val,.val] [] [(4,none)] [(0,[0,1]),(1,[0,1])]),
 (84,.code c84 [.val] [] [(2,none)] [(0,[0]),(1,[0])]),
 (87,.code c87 [.val] [] [(2,none)] [(0,[0]),(1,[0])]),
 (89,.code c89 [.val] [] [(2,none)] [(0,[0]),(1,[0])]),
 (101,.code c101 [.val] [] [(2,none)] [(0,[0]),(1,[1]),(2,[]),(3,[1]),(4,[1,20,21,22]),(5,[1,20,21,22]),(6,[1,4,20,21,22]),(7,[]),(8,[1,20,21,22]),(9,[1]),(10,[1,44,45,46]),(11,[1,44,45,46]),(12,[1,6,44,45,46]),(13,[]),(14,[1,44,45,46]),(15,[]),(1000004,[1,2,69]),(1000010,[2])]),
 (102,.code c102 [.val] [] [(2,none)] [(0,[0]),(1,[1])]),
 (103,.code c103 [.val] [] [(2,some (true,2))] [(0,[0]),(1,[1,2]),(2,[1,2,3]),(3,[1,2,3,9,10,11]),(4,[1,2,3,9,10,11]),(5,[1,2,3,5,9,10,11]),(6,[1,2,3,5,9,10,11]),(7,[1,2,3,9,10,11]),(8,[1,2,3]),(9,[1,2,3,27,28,29]),(10,[1,2,3,27,28,29]),(11,[1,2,3,7,27,28,29]),(12,[1,2,3,7,27,28,29]),(13,[1,2,3,27,28,29]),(14,[2,3]),(1000003,[1,2,3,43]),(1000009,[2,3])]),
 (104,.code c104 [.io] [1] [(2,some (true,2)),(3,none)] [(0,[0]),(1,[1,2]),(2,[1,2]),(3,[1,2])]),
 (105,.code c105 [.val] [] [(2,none)] [(0,[0]),(1,[0]),(2,[0,3]),(3,[]),(4,[0,3]),(5,[0,3,27,28]),(6,[0,3,27,28]),(7,[0,3,4,27,28]),(8,[0,3,4,5,27,28]),(9,[]),(10,[0,3,27,28]),(11,[0,3]),(12,[0,3,60,61]),(13,[0,3,60,61]),(14,[0,3,6,60,61]),(15,[]),(16,[0,3,60,61]),(17,[]),(1000005,[0,2,3,100]),(1000012,[2])]),
 (106,.code c106 [.val,.val,.val] [] [(6,none)] [(0,[0,1,2]),(1,[0,1,2])]),
 (107,.code c107 [.val] [] [(2,some (true,2))] [(0,[0]),(1,[0,2]),(2,[0,2,3]),(3,[0,2,3,14,15]),(4,[0,2,3,14,15]),(5,[0,2,3,4,14,15]),(6,[0,2,3,14,15]),(7,[0,2,3]),(8,[0,2,3,35,36]),(9,[0,2,3,35,36]),(10,[0,2,3,5,35,36]),(11,[0,2,3,6,35,36]),(12,[0,2,3,6,35,36]),(13,[0,2,3,35,36]),(14,[2,3]),(1000003,[0,2,3,56]),(1000008,[2,3])]),
 (108,.code c108 [.val] [] [(2,some (true,3))] [(0,[0]),(1,[0,2])]),
 (109,.code c109 [.val,.val] [] [(4,none)] [(0,[0,1]),(1,[0,1]),(2,[0,1]),(3,[]),(4,[0,1]),(5,[0,1,5]),(6,[0,1,5]),(7,[0,1,5]),(8,[0,1,5]),(9,[]),(10,[1]),(1000005,[1,4])]),
 (110,.code c110 [.val,.val] [] [(4,none)] [(0,[0,1]),(1,[0,1]),(2,[0,1]),(3,[]),(4,[0,1]),(5,[0,1,5]),(6,[0,1,5]),(7,[0,1,5]),(8,[0,1,5]),(9,[]),(10,[1]),(1000005,[1,4])]),
 (111,.code c111 [.val] [] [(2,none)] [(0,[0]),(1,[0]),(2,[0,3]),(3,[0,3,4]),(4,[0,3,4]),(5,[0,3,4]),(6,[3]),(1000003,[3])]),
 (112,.code c112 [.val] [] [(2,none)] [(0,[0]),(1,[0]),(2,[0,3]),(3,[0,3,4]),(4,[0,3,4]),(5,[0,3,4]),(6,[3]),(1000003,[3])]),
 (113,.code c113 [.val,.val] [] [(4,none)] [(0,[0,1]),(1,[0,1]),(2,[]),(3,[0,1]),(4,[0,1,5]),(5,[0,1,5]),(6,[0,1,5]),(7,[]),(8,[]),(1000004,[4])]),
 (114,.code c114 [.val,.val] [] [(4,none)] [(0,[0,1]),(1,[0,1]),(2,[]),(3,[0,1]),(4,[0,1,5]),(5,[0,1,5]),(6,[0,1,5]),(7,[]),(8,[]),(1000004,[4])]),
 (115,.code c115 [.io,.val] [0] [(4,none)] [(0,[0,1]),(1,[0,1]),(2,[0,1,5]),(3,[0,1,5]),(4,[0,1,5]),(5,[0,1,5]),(6,[0,1,5]),(7,[0,1,5]),(8,[0,1,5]),(9,[0,1]),(1000002,[0,1])]),
 (116,.code c116 [.io,.val] [0] [(4,none)] [(0,[0,1]),(1,[0,1]),(2,[0,1,5]),(3,[0,1,5]),(4,[0,1,5]),(5,[0,1,5]),(6,[0,1,5]),(7,[0,1,5]),(8,[0,1,5]),(9,[0,1,5]),(10,[0,1,5]),(11,[0,1,5]),(12,[0,1,5]),(13,[0,1]),(1000002,[0,1])]),
 (117,.code c117 [.val,.val] [] [(4,none)] [(0,[0,1]),(1,[0,1]),(2,[0,1,5]),(3,[0,1,5]),(4,[0,1,5]),(5,[]),(6,[0,1,5]),(7,[0,1,5]),(8,[]),(9,[0,1,5]),(10,[0,1,5]),(11,[0,1,5]),(12,[]),(13,[1]),(1000002,[1,4])]),
 (118,.code c118 [.val,.val] [] [(4,none)] [(0,[0,1]),(1,[0,1]),(2,[0,1,5]),(3,[0,1,5]),(4,[0,1,5]),(5,[0,1,5]),(6,[]),(7,[0,1,5]),(8,[]),(9,[0,1,5]),(10,[0,1,5]),(11,[]),(12,[0,1,5]),(13,[0,1,5]),(14,[]),(15,[0,1,5]),(16,[0,1,5]),(17,[]),(18,[0,1,5]),(19,[1]),(1000002,[1,4])]),
 (119,.code c119 [.val] [] [(2,none)] [(0,[0]),(1,[0])]),
 (133,.code c133 [.val,.val] [] [(4,none),(5,none)] [(0,[0,1]),(1,[0,1]),(2,[0,1,6]),(3,[0,1,6]),(4,[]),(5,[0,1,6]),(6,[]),(7,[0,1,6]),(8,[1]),(9,[0,1,6]),(10,[]),(11,[0,1,6]),(12,[]),(13,[0,1,6]),(14,[1]),(15,[])]),
 (136,.code c136 [.val,.val,.val,.val] [] [(8,none)] [(0,[0,1,2,3]),(1,[1,2,3,4])]),
 (137,.code c137 [.val] [] [(2,none)] [(0,[0]),(1,[0])]),
 (143,.code c143 [.val] [] [(2,none)] [(0,[0]),(1,[0])]),
 (144,.code c144 [.val] [] [(2,none)] [(0,[0]),(1,[0])]),
 (145,.code c145 [.val,.io] [1] [(4,some (true,5))] [(0,[0,1]),(1,[0,1,4])]),
 (146,.code c146 [.val] [] [(2,none)] [(0,[0]),(1,[0]),(2,[0,3]),(3,[0,3]),(4,[0,3]),(5,[]),(6,[0]),(1000002,[0,2])]),
 (147,.code c147 [.val] [] [(2,none)] [(0,[0]),(1,[0]),(2,[0,5,6]),(3,[0,5,6]),(4,[0,3,5,6]),(5,[]),(6,[0,5,6]),(7,[0]),(1000002,[0,2])]),
 (148,.code c148 [.val] [] [(2,none)] [(0,[0]),(1,[0])]),
 (149,.code c149 [.val] [] [(2,none)] [(0,[0]),(1,[0]),(2,[0,3]),(3,[0,3,8,9]),(4,[0,3,8,9]),(5,[0,3,4,8,9]),(6,[0,3,5,8,9]),(7,[0,3,5,8,9]),(8,[0,3,8,9]),(9,[3]),(1000003,[3])]),
 (150,.code c150 [.val,.val] [] [(4,none)] [(0,[0,1]),(1,[1,2]),(2,[1]),(3,[]),(4,[1])]),
 (151,.code c151 [.val,.val] [] [(4,none)] [(0,[0,1]),(1,[1,2]),(2,[1]),(3,[]),(4,[1])]),
 (152,.code c152 [.val] [] [(2,some (true,3))] [(0,[0]),(1,[1,2]),(2,[1,2,3]),(3,[1,2,3]),(4,[1,2,3]),(5,[2,3])]),
 (153,.code c153 [.val] [] [(2,some (true,5))] [(0,[0]),(1,[1,2]),(2,[1,2,3]),(3,[1,2,3]),(4,[1,2,3]),(5,[1,2,3]),(6,[1,2,3]),(7,[2,3])]),
 (154,.code c154 [.val,.val] [] [(4,none)] [(0,[0,1]),(1,[2,3]),(2,[]),(3,[2,3]),(4,[]),(5,[2,3]),(6,[]),(7,[])]),
 (155,.code c155 [.val,.val] [] [(4,none)] [(0,[0,1]),(1,[2,3]),(2,[]),(3,[2,3]),(4,[]),(5,[2,3]),(6,[]),(7,[2,3]),(8,[]),(9,[2,3]),(10,[]),(11,[])]),
 (156,.code c156 [.io,.val] [0] [(4,none)] [(0,[0,1]),(1,[0,1]),(2,[0,1,5]),(3,[0,1,5]),(4,[0,1,5]),(5,[0,1,5]),(6,[0,1]),(1000002,[0,1])]),
 (157,.code c157 [.io,.val] [0] [(4,none)] [(0,[0,1]),(1,[0,1]),(2,[0,1,5]),(3,[0,1,5]),(4,[0,1,5]),(5,[0,1,5]),(6,[0,1,5]),(7,[0,1,5]),(8,[0,1,5]),(9,[0,1]),(1000002,[0,1])]),
 (158,.code c158 [.val,.val] [] [(4,none)] [(0,[0,1]),(1,[0,1]),(2,[0,1,5]),(3,[0,1,5]),(4,[0,1,5]),(5,[]),(6,[0,1,5]),(7,[1]),(1000002,[1,4])]),
 (159,.code c159 [.val,.val] [] [(4,none)] [(0,[0,1]),(1,[0,1]),(2,[0,1,5]),(3,[0,1,5]),(4,[0,1,5]),(5,[]),(6,[0,1,5]),(7,[0,1,5]),(8,[]),(9,[0,1,5]),(10,[0,1,5]),(11,[0,1,5]),(12,[]),(13,[1]),(1000002,[1,4])]),
 (174,.code c174 [.val] [] [(2,none)] [(0,[0]),(1,[0])]),
 (177,.code c177 [.val] [] [(2,none)] [(0,[0]),(1,[0]),(2,[0,3]),(3,[0,3,4]),(4,[0]),(5,[0,3]),(6,[0,3,4]),(7,[0,3]),(8,[0,3,4]),(9,[]),(10,[0]),(11,[0,5])]),
 (178,.code c178 [.val] [] [(2,none)] [(0,[0]),(1,[0])]),
 (179,.code c179 [.val,.val] [] [(4,none)] [(0,[0,1]),(1,[0,1]),(2,[1]),(3,[]),(4,[1])]),
 (180,.code c180 [.val,.val] [] [(4,none)] [(0,[0,1]),(1,[0,1]),(2,[0,1]),(3,[]),(4,[0,1]),(5,[0,1,5]),(6,[0,1,5]),(7,[0,1,5]),(8,[0,1,5]),(9,[]),(10,[1]),(1000005,[1,4])]),
 (181,.code c181 [.val] [] [(2,none)] [(0,[0]),(1,[0]),(2,[0,3]),(3,[0,3,4]),(4,[0,3,4]),(5,[0,3,4]),(6,[3]),(1000003,[3])]),
 (182,.code c182 [.val] [] [(2,none)] [(0,[0]),(1,[0]),(2,[0,3]),(3,[0,3,4]),(4,[0,3,4]),(5,[0,3,4]),(6,[3]),(1000003,[3])]),
 (183,.code c183 [.val,.val] [] [(4,none)] [(0,[0,1]),(1,[0,1]),(2,[]),(3,[0,1]),(4,[0,1,5]),(5,[0,1,5]),(6,[0,1,5]),(7,[]),(8,[]),(1000004,[4])]),
 (184,.code c184 [.val,.val] [] [(4,none)] [(0,[0,1]),(1,[0,1]),(2,[]),(3,[0,1]),(4,[0,1,5]),(5,[0,1,5]),(6,[0,1,5]),(7,[]),(8,[]),(1000004,[4])]),
 (185,.code c185 [.val,.val] [] [(4,none)] [(0,[0,1]),(1,[0,1]),(2,[0,1]),(3,[0,1]),(4,[0,1]),(5,[0,1])]),
 (194,.code c194 [.val] [] [(2,none)] [(0,[0]),(1,[0])]),
 (195,.code c195 [.val,.val] [] [(4,none)] [(0,[0,1]),(1,[1,2]),(2,[1]),(3,[]),(4,[1])]),
 (196,.code c196 [.val] [] [(2,some (true,3))] [(0,[0]),(1,[1,2]),(2,[1,2,3]),(3,[1,2,3]),(4,[1,2,3]),(5,[2,3])]),
 (197,.code c197 [.val,.val] [] [(4,none)] [(0,[0,1]),(1,[2,3]),(2,[]),(3,[2,3]),(4,[]),(5,[2,3]),(6,[]),(7,[])]),
 (205,.code c205 [.val] [] [(2,none)] [(0,[0]),(1,[0])])]
def E:Env:=⟨fun t=>lookT tyTab t,lookF fnTab⟩
def fdAt (n:Nat):FD:=match lookF fnTab n with
 | some d=>d
 | none => .ext fun _=>none
def keepAt (n:Nat):List (Nat × List Nat):=match lookF fnTab n with
 | some d=>d.keep
 | none=>[]
theorem tysOk:TysOk Try.prog E:=tysOk_of (l:=tyTab) (fun _=>rfl) (by kernel_rfl)
abbrev FT (f:Nat):Prop:=FnTab Try.prog E f (fdAt f)
theorem ftS {f : Nat} {fn : Func} (c : Code) (hf : Try.prog.funcs[f]? = some fn) (hn : (fn.name == "runtime.NumGoroutine") = false := by kernel_rfl) (hb : fn.body = some c := by kernel_rfl) (h : tabOk E fn c (fdAt f).ms (fdAt f).os (fdAt f).rs = true := by kernel_rfl) (hd : fdAt f = .code c (fdAt f).ms (fdAt f).os (fdAt f).rs (fdAt f).keep := by kernel_rfl) : FT f := by unfold FT; rw [hd]; exact fnTab_code hf hn hb h
theorem ft9:FT 9:=ftS c9 Try.func9
theorem ft23:FT 23:=ftS c23 Try.func23
theorem ft53:FT 53:=ftS c53 Try.func53
theorem ft54:FT 54:=ftS c54 Try.func54
theorem ft55:FT 55:=ftS c55 Try.func55
theorem ft56:FT 56:=ftS c56 Try.func56
theorem ft57:FT 57:=ftS c57 Try.func57
theorem ft58:FT 58:=ftS c58 Try.func58
theorem ft59:FT 59:=ftS c59 Try.func59
theorem ft66:FT 66:=ftS c66 Try.func66
theorem ft67:FT 67:=ftS c67 Try.func67
theorem ft76:FT 76:=ftS c76 Try.func76
theorem ft78:FT 78:=ftS c78 Try.func78
theorem ft81:FT 81:=ftS c81 Try.func81
theorem ft83:FT 83:=ftS c83 Try.func83
theorem ft84:FT 84:=ftS c84 Try.func84
theorem ft87:FT 87:=ftS c87 Try.func87
theorem ft89:FT 89:=ftS c89 Try.func89
theorem ft101:FT 101:=ftS c101 Try.func101
theorem ft102:FT 102:=ftS c102 Try.func102
theorem ft103:FT 103:=ftS c103 Try.func103
theorem ft104:FT 104:=ftS c104 Try.func104
theorem ft105:FT 105:=ftS c105 Try.func105
theorem ft106:FT 106:=ftS c106 Try.func106
theorem ft107:FT 107:=ftS c107 Try.func107
theorem ft108:FT 108:=ftS c108 Try.func108
theorem ft109:FT 109:=ftS c109 Try.func109
theorem ft110:FT 110:=ftS c110 Try.func110
theorem ft111:FT 111:=ftS c111 Try.func111
theorem ft112:FT 112:=ftS c112 Try.func112
theorem ft113:FT 113:=ftS c113 Try.func113
theorem ft114:FT 114:=ftS c114 Try.func114
theorem ft115:FT 115:=ftS c115 Try.func115
theorem ft116:FT 116:=ftS c116 Try.func116
theorem ft117:FT 117:=ftS c117 Try.func117
theorem ft118:FT 118:=ftS c118 Try.func118
theorem ft119:FT 119:=ftS c119 Try.func119
theorem ft133:FT 133:=ftS c133 Try.func133
theorem ft136:FT 136:=ftS c136 Try.func136
theorem ft137:FT 137:=ftS c137 Try.func137
theorem ft143:FT 143:=ftS c143 Try.func143
theorem ft144:FT 144:=ftS c144 Try.func144
theorem ft145:FT 145:=ftS c145 Try.func145
theorem ft146:FT 146:=ftS c146 Try.func146
theorem ft147:FT 147:=ftS c147 Try.func147
theorem ft148:FT 148:=ftS c148 Try.func148
theorem ft149:FT 149:=ftS c149 Try.func149
theorem ft150:FT 150:=ftS c150 Try.func150
theorem ft151:FT 151:=ftS c151 Try.func151
theorem ft152:FT 152:=ftS c152 Try.func152
theorem ft153:FT 153:=ftS c153 Try.func153
theorem ft154:FT 154:=ftS c154 Try.func154
theorem ft155:FT 155:=ftS c155 Try.func155
theorem ft156:FT 156:=ftS c156 Try.func156
theorem ft157:FT 157:=ftS c157 Try.func157
theorem ft158:FT 158:=ftS c158 Try.func158
theorem ft159:FT 159:=ftS c159 Try.func159
theorem ft174:FT 174:=ftS c174 Try.func174
theorem ft177:FT 177:=ftS c177 Try.func177
theorem ft178:FT 178:=ftS c178 Try.func178
theorem ft179:FT 179:=ftS c179 Try.func179
theorem ft180:FT 180:=ftS c180 Try.func180
theorem ft181:FT 181:=ftS c181 Try.func181
theorem ft182:FT 182:=ftS c182 Try.func182
theorem ft183:FT 183:=ftS c183 Try.func183
theorem ft184:FT 184:=ftS c184 Try.func184
theorem ft185:FT 185:=ftS c185 Try.func185
theorem ft194:FT 194:=ftS c194 Try.func194
theorem ft195:FT 195:=ftS c195 Try.func195
theorem ft196:FT 196:=ftS c196 Try.func196
theorem ft197:FT 197:=ftS c197 Try.func197
theorem ft205:FT 205:=ftS c205 Try.func205
theorem allFns:AllFns Try.prog E fnTab:=.cons ft9 (.cons ft23 (.cons ft53 (.cons ft54 (.cons ft55 (.cons ft56 (.cons ft57 (.cons ft58 (.cons ft59 (.cons ft66 (.cons ft67 (.cons ft76 (.cons ft78 (.cons ft81 (.cons ft83 (.cons ft84 (.cons ft87 (.cons ft89 (.cons ft101 (.cons ft102 (.cons ft103 (.cons ft104 (.cons ft105 (.cons ft106 (.cons ft107 (.cons ft108 (.cons ft109 (.cons ft110 (.cons ft111 (.cons ft112 (.cons ft113 (.cons ft114 (.cons ft115 (.cons ft116 (.cons ft117 (.cons ft118 (.cons ft119 (.cons ft133 (.cons ft136 (.cons ft137 (.cons ft143 (.cons ft144 (.cons ft145 (.cons ft146 (.cons ft147 (.cons ft148 (.cons ft149 (.cons ft150 (.cons ft151 (.cons ft152 (.cons ft153 (.cons ft154 (.cons ft155 (.cons ft156 (.cons ft157 (.cons ft158 (.cons ft159 (.cons ft174 (.cons ft177 (.cons ft178 (.cons ft179 (.cons ft180 (.cons ft181 (.cons ft182 (.cons ft183 (.cons ft184 (.cons ft185 (.cons ft194 (.cons ft195 (.cons ft196 (.cons ft197 (.cons ft205 (.nil))))))))))))))))))))))))))))))))))))))))))))))))))))))))))))))))))))))))
theorem fnOk:∀ f fd,E.fn f=some fd→FnTab Try.prog E f fd:=fnTab_of (l:=fnTab) (fun _=>rfl) allFns
abbrev FnS {V X:Type} (no:Nat) (P:List Arg) (S:Sig V) (A:RAlt X) (F:Nat→V→Option X):Prop:=∀ n v x,F n v=some x→evalFn E n no (flAs P (S.pk v))=some (A.enc x)
theorem fnS {V X:Type} {no:Nat} {P:List Arg} {S:Sig V} {A:RAlt X} {F:Nat→V→Option X} (c:Code) (O:Nat→Orc) (bs:List Code:=[]) (ha:∀ n,AllLp (O n) E (evalFn E n) n (keepAt no) bs:=by intro _;exact .nil) (hf:E.fn no=some (.code c (fdAt no).ms (fdAt no).os (fdAt no).rs (keepAt no)):=by kernel_rfl) (hO:∀ n,(O n).CfOk (evalFn E n):=by intro n;exact orcOf_cf _ _ n) (hb:topLoops c=bs:=by kernel_rfl) (h0:∀ v,F 0 v=none:=by intro _;rfl) (hs:∀ n v,F (n+1) v=fnK E (O n) no (flAs P (S.pk v)) A.dec:=by intro _ _;kernel_rfl):FnS no P S A F:=fn_pure O hf hO (fun n=>lpOk_of hb (ha n)) h0 hs
abbrev LpS (no:Nat) (c:Code) (i n:Nat) (O:Orc):Prop:=LpOk O E (evalFn E n) n (keepAt no) (.loop (loopAt c i))
theorem lpS {V X:Type} {no i:Nat} {c:Code} {O:Nat→Orc} (P:AS) (S:Sig V) (A:Alt X) (L:Nat→Nat→V→Option X) (bs:List Code:=[]) (ha:∀ n,AllLp (O n) E (evalFn E n) n (keepAt no) bs:=by intro _;exact .nil) (hO:∀ n,(O n).CfOk (evalFn E n):=by intro n;exact orcOf_cf _ _ n) (hb:topLoops (loopAt c i)=bs:=by kernel_rfl) (h0:∀ n v,L n 0 v=none:=by intro _ _;rfl)
  (hs:∀ n m v,L n (m+1) v=codeK E (O n) (keepAt no) (loopAt c i) (flAS P (S.pk v)) (fun ex σ'=>match ex with
    | .normal=>bd (mtAS P (Go.Desk.settle (keepOf (keepAt no) (firstId (loopAt c i))) σ')) fun ls=>bd (S.up ls) (L n m)
    | .exit id=>A.dec (.exit id) (Go.Desk.settle (keepOf (keepAt no) (outId (loopAt c i))) σ')
    | .ret=>A.dec .ret (Go.Desk.settle (keepOf (keepAt no) (outId (loopAt c i))) σ')):=by intro _ _ _;kernel_rfl)
  (hW:∀ n (β:Type) (σ:AS) (k:Ex→AS→Option β),(O n).lp (lid (loopAt c i)) σ k=bd (mtAS P σ) fun ls=>bd (S.up ls) fun v=>bd (L n n v) fun x=>A.out x k:=by intro _ _ _ _;kernel_rfl):∀ n,LpS no c i n (O n):=fun n=>lp_pure P S A (L n) (hO n) (lpOk_of hb (ha n)) (h0 n) (hs n) (hW n)
end Go.Proofs.Ytdobhipbgpiceaa.D
end
noncomputable section
namespace Go.Proofs.Ytdobhipbgpiceaa.D
open Go Go.Desk
abbrev qV0:Go.Desk.V:=⟨true,[.sl .shr [.leaf,.leaf,.sl .shr [.leaf]],.sl .shr [.sl .shr [.leaf,.leaf,.sl .shr [.leaf]],.leaf,.leaf,.leaf,.leaf]],[.lst 0 [],.lst 0 []]⟩
abbrev qV1:Go.Desk.V:=⟨true,[.sl .own [.leaf,.leaf,.sl .own [.leaf]],.sl .own [.sl .own [.leaf,.leaf,.sl .own [.leaf]],.leaf,.leaf,.leaf,.leaf]],[.lst 0 [],.lst 0 []]⟩
abbrev qV2:Go.Desk.V:=⟨true,[.sl .shr [.leaf,.leaf,.sl .shr [.leaf]],.leaf,.leaf,.leaf,.leaf],[.lst 0 [],.int .i64 0,.flt .f32 0,.bool false,.bool false]⟩
abbrev qV3:Go.Desk.V:=⟨false,[.sl .shr [.sl .shr [.leaf,.leaf,.sl .shr [.leaf]],.leaf,.leaf,.leaf,.leaf]],[.lst 0 []]⟩
abbrev qV4:Go.Desk.V:=⟨false,[.sl .own [.sl .own [.leaf,.leaf,.sl .own [.leaf]],.leaf,.leaf,.leaf,.leaf]],[.lst 0 []]⟩
abbrev qV5:Go.Desk.V:=⟨true,[.leaf,.leaf,.sl .shr [.leaf]],[.int .i64 0,.int .i64 0,.lst 0 []]⟩
abbrev qV6:Go.Desk.V:=⟨true,[.leaf,.leaf,.sl .own [.leaf]],[.int .i64 0,.int .i64 0,.lst 0 []]⟩
abbrev qV7:Go.Desk.V:=⟨false,[.sl .shr [.leaf,.leaf,.sl .shr [.leaf]]],[.lst 0 []]⟩
abbrev qV8:Go.Desk.V:=⟨false,[.sl .own [.leaf,.leaf,.sl .own [.leaf]]],[.lst 0 []]⟩
abbrev qV9:Go.Desk.V:=⟨false,[.sl .shr [.leaf]],[.lst 0 []]⟩
abbrev qV10:Go.Desk.V:=⟨false,[.sl .own [.leaf]],[.lst 0 []]⟩
abbrev qV11:Go.Desk.V:=⟨false,[.leaf],[.int .i64 0]⟩
abbrev qV12:Go.Desk.V:=⟨false,[.leaf],[.bool false]⟩
abbrev qV13:Go.Desk.V:=⟨false,[.leaf],[.flt .f32 0]⟩
abbrev qA14:Arg:=⟨.val,qV11⟩
abbrev qA15:Arg:=⟨.val,qV13⟩
abbrev qA16:Arg:=⟨.val,qV9⟩
abbrev qA17:Arg:=⟨.val,qV5⟩
abbrev qA18:Arg:=⟨.val,qV7⟩
abbrev qA19:Arg:=⟨.val,qV2⟩
abbrev qA20:Arg:=⟨.val,qV3⟩
abbrev qA21:Arg:=⟨.val,qV0⟩
abbrev qS22:Slot:=.val false [.rf .shr [.sl .shr [.leaf,.leaf,.sl .shr [.leaf]],.sl .shr [.sl .shr [.leaf,.leaf,.sl .shr [.leaf]],.leaf,.leaf,.leaf,.leaf]]] [.ref [.lst 0 [],.lst 0 []]] [] 0
abbrev qS23:Slot:=.val false [.sl .shr [.sl .shr [.leaf,.leaf,.sl .shr [.leaf]],.leaf,.leaf,.leaf,.leaf]] [.lst 0 []] [] 0
abbrev qS24:Slot:=.val false [.sl .shr [.leaf,.leaf,.sl .shr [.leaf]]] [.lst 0 []] [] 0
abbrev qS25:Slot:=.val false [.sl .own [.leaf,.leaf,.sl .own [.leaf]]] [.lst 0 []] [] 0
abbrev qS26:Slot:=.val false [.sl .own [.leaf,.leaf,.sl .own [.leaf]]] [.lst 0 []] [] 1
abbrev qS27:Slot:=.val false [.sl .shr [.leaf]] [.lst 0 []] [] 0
abbrev qS28:Slot:=.val false [.leaf] [.int .i64 0] [] 0
abbrev qS29:Slot:=.val false [.leaf] [.bool false] [] 0
set_option linter.unusedVariables false
def f179:Nat→Nat→List T→Int→Option (Int)
 | 0,_,_,_=>none
 | n+1,n1,l2,i3 =>
   let i4:=(IntKind.i64.wrap (i3 - (n1:Int)))
   br (decide (i4<(0:Int))) (
    some (-1:Int)) (
    some i4)
def sg_li:Sig (Nat × List T × Int) where
 pk:=fun v=>[.lst v.1 v.2.1,.int v.2.2]
 up:=fun ls=>match ls with
  | [.lst a0 a1,.int a2]=>some (a0,a1,a2)
  | _=>none
 ok:=by intro _ _ h;split at h <;>cases h;rfl
def sg_i:Sig (Int) where
 pk:=fun v=>[.int v]
 up:=fun ls=>match ls with
  | [.int a0]=>some a0
  | _=>none
 ok:=by intro _ _ h;split at h <;>cases h;rfl
def f179.P:List Arg:=[qA16,qA14]
def f179.A:RAlt (Int):=.one ⟨[qV11],[none,none]⟩ sg_i
def f179.F (n:Nat) (v:Nat × List T × Int):=f179 n v.1 v.2.1 v.2.2
def f179.O (n:Nat):Orc:=orcOf (E:=E) [] [] n
theorem f179.ok:FnS 179 f179.P sg_li f179.A f179.F:=fnS c179 f179.O
def f179.w:FnW E:=fnW 179 f179.P sg_li f179.A f179.F f179.ok
def f150:Nat→Int→Int→Nat→List T→Int→Option (Int)
 | 0,_,_,_,_,_=>none
 | n+1,i1,i2,n3,l4,i5 =>
   bd (f179 n n3 l4 i5) fun r6 =>
   let i7:=r6
   br (decide (i7<(0:Int))) (
    some (-1:Int)) (
    some i7)
def sg_iili:Sig (Int × Int × Nat × List T × Int) where
 pk:=fun v=>[.int v.1,.int v.2.1,.lst v.2.2.1 v.2.2.2.1,.int v.2.2.2.2]
 up:=fun ls=>match ls with
  | [.int a0,.int a1,.lst a2 a3,.int a4]=>some (a0,a1,a2,a3,a4)
  | _=>none
 ok:=by intro _ _ h;split at h <;>cases h;rfl
def f150.P:List Arg:=[qA17,qA14]
def f150.A:RAlt (Int):=.one ⟨[qV11],[none,none]⟩ sg_i
def f150.F (n:Nat) (v:Int × Int × Nat × List T × Int):=f150 n v.1 v.2.1 v.2.2.1 v.2.2.2.1 v.2.2.2.2
def f150.O (n:Nat):Orc:=orcOf (E:=E) [f179.w] [] n
theorem f150.ok:FnS 150 f150.P sg_iili f150.A f150.F:=fnS c150 f150.O
def f150.w:FnW E:=fnW 150 f150.P sg_iili f150.A f150.F f150.ok
def f109.l0 (n:Nat):Nat→Nat→List T→Int→Int→Option ((Int) ⊕ (Int))
 | 0,_,_,_,_=>none
 | m+1,n1,l2,i3,i4 =>
   br (decide (i4<(n1:Int))) (
    gd ((decide ((0≤i4)∧(i4<(n1:Int))))&&(okAt [(CK.int .i64),(CK.int .i64),CK.lst] l2 (((Int.toNat i4) * 3)+0))) (
    bd (f150 n (iAt l2 (((Int.toNat i4) * 3)+0)) (iAt l2 ((((Int.toNat i4) * 3)+0)+1)) (nAt l2 (((((Int.toNat i4) * 3)+0)+1)+1)) (lAt l2 (((((Int.toNat i4) * 3)+0)+1)+1)) i3) fun r5 =>
    let i6:=r5
    br (decide (i6<(0:Int))) (
     some (Sum.inl (-1:Int))) (
     f109.l0 n m n1 l2 i6 (IntKind.i64.wrap (i4+(1:Int)))))) (
    some (Sum.inr i3))
def f109:Nat→Nat→List T→Int→Option (Int)
 | 0,_,_,_=>none
 | n+1,n1,l2,i3 =>
   let i4:=(IntKind.i64.wrap (i3 - (n1:Int)))
   br (decide (i4<(0:Int))) (
    some (-1:Int)) (
    bd (f109.l0 n n n1 l2 i4 (0:Int)) fun r5 =>
    sm r5 (fun u6 =>
     let i7:=u6
     some i7) (fun u8 =>
     let i9:=u8
     some i9))
def sg_lii:Sig (Nat × List T × Int × Int) where
 pk:=fun v=>[.lst v.1 v.2.1,.int v.2.2.1,.int v.2.2.2]
 up:=fun ls=>match ls with
  | [.lst a0 a1,.int a2,.int a3]=>some (a0,a1,a2,a3)
  | _=>none
 ok:=by intro _ _ h;split at h <;>cases h;rfl
def f109.l0.P:AS:=⟨[(0,qS24),(1,qS28),(5,qS28)],0⟩
def f109.l0.A:Alt ((Int) ⊕ (Int)):=.or (.one .ret ⟨[(1,.dead),(4,qS28)],0⟩ sg_i) (.one (.exit 0) ⟨[(1,qS28),(4,.dead)],0⟩ sg_i)
def f109.l0.F (n m:Nat) (v:Nat × List T × Int × Int):=f109.l0 n m v.1 v.2.1 v.2.2.1 v.2.2.2
def f109.l0.W (n:Nat):LpW:=.of 80 f109.l0.P sg_lii f109.l0.A (f109.l0.F n n)
def f109.P:List Arg:=[qA18,qA14]
def f109.A:RAlt (Int):=.one ⟨[qV11],[none,none]⟩ sg_i
def f109.F (n:Nat) (v:Nat × List T × Int):=f109 n v.1 v.2.1 v.2.2
def f109.O (n:Nat):Orc:=orcOf (E:=E) [f150.w] [f109.l0.W n] n
theorem f109.l0.ok:∀ n,LpS 109 c109 0 n (f109.O n):=lpS f109.l0.P sg_lii f109.l0.A f109.l0.F
theorem f109.ok:FnS 109 f109.P sg_li f109.A f109.F:=fnS c109 f109.O [loopAt c109 0] (fun n=>(.cons (f109.l0.ok n) .nil))
def f109.w:FnW E:=fnW 109 f109.P sg_li f109.A f109.F f109.ok
def f195:Nat→Int→Int→Nat→List T→Int→Option (Int)
 | 0,_,_,_,_,_=>none
 | n+1,i1,i2,n3,l4,i5 =>
   bd (f179 n n3 l4 i5) fun r6 =>
   let i7:=r6
   br (decide (i7<(0:Int))) (
    some (-1:Int)) (
    some i7)
def f195.P:List Arg:=[qA17,qA14]
def f195.A:RAlt (Int):=.one ⟨[qV11],[none,none]⟩ sg_i
def f195.F (n:Nat) (v:Int × Int × Nat × List T × Int):=f195 n v.1 v.2.1 v.2.2.1 v.2.2.2.1 v.2.2.2.2
def f195.O (n:Nat):Orc:=orcOf (E:=E) [f179.w] [] n
theorem f195.ok:FnS 195 f195.P sg_iili f195.A f195.F:=fnS c195 f195.O
def f195.w:FnW E:=fnW 195 f195.P sg_iili f195.A f195.F f195.ok
def f180.l0 (n:Nat):Nat→Nat→List T→Int→Int→Option ((Int) ⊕ (Int))
 | 0,_,_,_,_=>none
 | m+1,n1,l2,i3,i4 =>
   br (decide (i4<(n1:Int))) (
    gd ((decide ((0≤i4)∧(i4<(n1:Int))))&&(okAt [(CK.int .i64),(CK.int .i64),CK.lst] l2 (((Int.toNat i4) * 3)+0))) (
    bd (f195 n (iAt l2 (((Int.toNat i4) * 3)+0)) (iAt l2 ((((Int.toNat i4) * 3)+0)+1)) (nAt l2 (((((Int.toNat i4) * 3)+0)+1)+1)) (lAt l2 (((((Int.toNat i4) * 3)+0)+1)+1)) i3) fun r5 =>
    let i6:=r5
    br (decide (i6<(0:Int))) (
     some (Sum.inl (-1:Int))) (
     f180.l0 n m n1 l2 i6 (IntKind.i64.wrap (i4+(1:Int)))))) (
    some (Sum.inr i3))
def f180:Nat→Nat→List T→Int→Option (Int)
 | 0,_,_,_=>none
 | n+1,n1,l2,i3 =>
   let i4:=(IntKind.i64.wrap (i3 - (n1:Int)))
   br (decide (i4<(0:Int))) (
    some (-1:Int)) (
    bd (f180.l0 n n n1 l2 i4 (0:Int)) fun r5 =>
    sm r5 (fun u6 =>
     let i7:=u6
     some i7) (fun u8 =>
     let i9:=u8
     some i9))
def f180.l0.P:AS:=⟨[(0,qS24),(1,qS28),(5,qS28)],0⟩
def f180.l0.A:Alt ((Int) ⊕ (Int)):=.or (.one .ret ⟨[(1,.dead),(4,qS28)],0⟩ sg_i) (.one (.exit 0) ⟨[(1,qS28),(4,.dead)],0⟩ sg_i)
def f180.l0.F (n m:Nat) (v:Nat × List T × Int × Int):=f180.l0 n m v.1 v.2.1 v.2.2.1 v.2.2.2
def f180.l0.W (n:Nat):LpW:=.of 80 f180.l0.P sg_lii f180.l0.A (f180.l0.F n n)
def f180.P:List Arg:=[qA18,qA14]
def f180.A:RAlt (Int):=.one ⟨[qV11],[none,none]⟩ sg_i
def f180.F (n:Nat) (v:Nat × List T × Int):=f180 n v.1 v.2.1 v.2.2
def f180.O (n:Nat):Orc:=orcOf (E:=E) [f195.w] [f180.l0.W n] n
theorem f180.l0.ok:∀ n,LpS 180 c180 0 n (f180.O n):=lpS f180.l0.P sg_lii f180.l0.A f180.l0.F
theorem f180.ok:FnS 180 f180.P sg_li f180.A f180.F:=fnS c180 f180.O [loopAt c180 0] (fun n=>(.cons (f180.l0.ok n) .nil))
def f180.w:FnW E:=fnW 180 f180.P sg_li f180.A f180.F f180.ok
def f151:Nat→Nat→List T→Int→Nat→Bool→Bool→Int→Option (Int)
 | 0,_,_,_,_,_,_,_=>none
 | n+1,n1,l2,i3,x4,b5,b6,i7 =>
   bd (f180 n n1 l2 i7) fun r8 =>
   let i9:=r8
   br (decide (i9<(0:Int))) (
    some (-1:Int)) (
    some i9)
def sg_lifbbi:Sig (Nat × List T × Int × Nat × Bool × Bool × Int) where
 pk:=fun v=>[.lst v.1 v.2.1,.int v.2.2.1,.flt v.2.2.2.1,.bool v.2.2.2.2.1,.bool v.2.2.2.2.2.1,.int v.2.2.2.2.2.2]
 up:=fun ls=>match ls with
  | [.lst a0 a1,.int a2,.flt a3,.bool a4,.bool a5,.int a6]=>some (a0,a1,a2,a3,a4,a5,a6)
  | _=>none
 ok:=by intro _ _ h;split at h <;>cases h;rfl
def f151.P:List Arg:=[qA19,qA14]
def f151.A:RAlt (Int):=.one ⟨[qV11],[none,none]⟩ sg_i
def f151.F (n:Nat) (v:Nat × List T × Int × Nat × Bool × Bool × Int):=f151 n v.1 v.2.1 v.2.2.1 v.2.2.2.1 v.2.2.2.2.1 v.2.2.2.2.2.1 v.2.2.2.2.2.2
def f151.O (n:Nat):Orc:=orcOf (E:=E) [f180.w] [] n
theorem f151.ok:FnS 151 f151.P sg_lifbbi f151.A f151.F:=fnS c151 f151.O
def f151.w:FnW E:=fnW 151 f151.P sg_lifbbi f151.A f151.F f151.ok
def f110.l0 (n:Nat):Nat→Nat→List T→Int→Int→Option ((Int) ⊕ (Int))
 | 0,_,_,_,_=>none
 | m+1,n1,l2,i3,i4 =>
   br (decide (i4<(n1:Int))) (
    gd ((decide ((0≤i4)∧(i4<(n1:Int))))&&(okAt [CK.lst,(CK.int .i64),(CK.flt .f32),CK.bool,CK.bool] l2 (((Int.toNat i4) * 5)+0))) (
    bd (f151 n (nAt l2 (((Int.toNat i4) * 5)+0)) (lAt l2 (((Int.toNat i4) * 5)+0)) (iAt l2 ((((Int.toNat i4) * 5)+0)+1)) (fAt l2 (((((Int.toNat i4) * 5)+0)+1)+1)) (bAt l2 ((((((Int.toNat i4) * 5)+0)+1)+1)+1)) (bAt l2 (((((((Int.toNat i4) * 5)+0)+1)+1)+1)+1)) i3) fun r5 =>
    let i6:=r5
    br (decide (i6<(0:Int))) (
     some (Sum.inl (-1:Int))) (
     f110.l0 n m n1 l2 i6 (IntKind.i64.wrap (i4+(1:Int)))))) (
    some (Sum.inr i3))
def f110:Nat→Nat→List T→Int→Option (Int)
 | 0,_,_,_=>none
 | n+1,n1,l2,i3 =>
   let i4:=(IntKind.i64.wrap (i3 - (n1:Int)))
   br (decide (i4<(0:Int))) (
    some (-1:Int)) (
    bd (f110.l0 n n n1 l2 i4 (0:Int)) fun r5 =>
    sm r5 (fun u6 =>
     let i7:=u6
     some i7) (fun u8 =>
     let i9:=u8
     some i9))
def f110.l0.P:AS:=⟨[(0,qS23),(1,qS28),(5,qS28)],0⟩
def f110.l0.A:Alt ((Int) ⊕ (Int)):=.or (.one .ret ⟨[(1,.dead),(4,qS28)],0⟩ sg_i) (.one (.exit 0) ⟨[(1,qS28),(4,.dead)],0⟩ sg_i)
def f110.l0.F (n m:Nat) (v:Nat × List T × Int × Int):=f110.l0 n m v.1 v.2.1 v.2.2.1 v.2.2.2
def f110.l0.W (n:Nat):LpW:=.of 80 f110.l0.P sg_lii f110.l0.A (f110.l0.F n n)
def f110.P:List Arg:=[qA20,qA14]
def f110.A:RAlt (Int):=.one ⟨[qV11],[none,none]⟩ sg_i
def f110.F (n:Nat) (v:Nat × List T × Int):=f110 n v.1 v.2.1 v.2.2
def f110.O (n:Nat):Orc:=orcOf (E:=E) [f151.w] [f110.l0.W n] n
theorem f110.l0.ok:∀ n,LpS 110 c110 0 n (f110.O n):=lpS f110.l0.P sg_lii f110.l0.A f110.l0.F
theorem f110.ok:FnS 110 f110.P sg_li f110.A f110.F:=fnS c110 f110.O [loopAt c110 0] (fun n=>(.cons (f110.l0.ok n) .nil))
def f110.w:FnW E:=fnW 110 f110.P sg_li f110.A f110.F f110.ok
def f55:Nat→Nat→List T→Nat→List T→Int→Option (Int)
 | 0,_,_,_,_,_=>none
 | n+1,n1,l2,n3,l4,i5 =>
   bd (f109 n n1 l2 i5) fun r6 =>
   let i7:=r6
   br (decide (i7<(0:Int))) (
    some (-1:Int)) (
    bd (f110 n n3 l4 i7) fun r8 =>
    let i9:=r8
    br (decide (i9<(0:Int))) (
     some (-1:Int)) (
     some i9))
def sg_lli:Sig (Nat × List T × Nat × List T × Int) where
 pk:=fun v=>[.lst v.1 v.2.1,.lst v.2.2.1 v.2.2.2.1,.int v.2.2.2.2]
 up:=fun ls=>match ls with
  | [.lst a0 a1,.lst a2 a3,.int a4]=>some (a0,a1,a2,a3,a4)
  | _=>none
 ok:=by intro _ _ h;split at h <;>cases h;rfl
def f55.P:List Arg:=[qA21,qA14]
def f55.A:RAlt (Int):=.one ⟨[qV11],[none,none]⟩ sg_i
def f55.F (n:Nat) (v:Nat × List T × Nat × List T × Int):=f55 n v.1 v.2.1 v.2.2.1 v.2.2.2.1 v.2.2.2.2
def f55.O (n:Nat):Orc:=orcOf (E:=E) [f109.w,f110.w] [] n
theorem f55.ok:FnS 55 f55.P sg_lli f55.A f55.F:=fnS c55 f55.O
def f55.w:FnW E:=fnW 55 f55.P sg_lli f55.A f55.F f55.ok
def f181.l0 (n:Nat):Nat→Nat→List T→Nat→List T→Int→Option (Nat × List T)
 | 0,_,_,_,_,_=>none
 | m+1,n1,l2,n3,l4,i5 =>
   br (decide (i5<(n1:Int))) (
    gd ((decide ((0≤i5)∧(i5<(n1:Int))))&&(okAt [(CK.flt .f32)] l2 (Int.toNat i5))) (
    gd (decide ((0≤i5)∧(i5<(n3:Int)))) (
    gd (Nat.ble ((Int.toNat i5)+1) (List.length l4)) (
    let l6:=(setN l4 (Int.toNat i5) [(T.flt .f32 (fAt l2 (Int.toNat i5)))])
    f181.l0 n m n1 l2 n3 l6 (IntKind.i64.wrap (i5+(1:Int))))))) (
    some (n3,l4))
def f181:Nat→Nat→List T→Option (Nat × List T)
 | 0,_,_=>none
 | n+1,n1,l2 =>
   gd (decide ((0≤(n1:Int))∧((n1:Int)≤(2147483648:Int)))) (
   let l3:=(reps n1 [(T.flt .f32 0)])
   bd (f181.l0 n n n1 l2 n1 l3 (0:Int)) fun r4 =>
   let n5:=r4.1
   let l6:=r4.2
   some (n5,l6))
def sg_l:Sig (Nat × List T) where
 pk:=fun v=>[.lst v.1 v.2]
 up:=fun ls=>match ls with
  | [.lst a0 a1]=>some (a0,a1)
  | _=>none
 ok:=by intro _ _ h;split at h <;>cases h;rfl
def f181.l0.P:AS:=⟨[(0,qS27),(3,.val false [.sl .own [.leaf]] [.lst 0 []] [] 0),(4,qS28)],0⟩
def f181.l0.A:Alt (Nat × List T):=.one (.exit 0) ⟨[(3,.val false [.sl .own [.leaf]] [.lst 0 []] [] 0)],0⟩ sg_l
def f181.l0.F (n m:Nat) (v:Nat × List T × Nat × List T × Int):=f181.l0 n m v.1 v.2.1 v.2.2.1 v.2.2.2.1 v.2.2.2.2
def f181.l0.W (n:Nat):LpW:=.of 48 f181.l0.P sg_lli f181.l0.A (f181.l0.F n n)
def f181.P:List Arg:=[qA16]
def f181.A:RAlt (Nat × List T):=.one ⟨[qV10],[none]⟩ sg_l
def f181.F (n:Nat) (v:Nat × List T):=f181 n v.1 v.2
def f181.O (n:Nat):Orc:=orcOf (E:=E) [] [f181.l0.W n] n
theorem f181.l0.ok:∀ n,LpS 181 c181 0 n (f181.O n):=lpS f181.l0.P sg_lli f181.l0.A f181.l0.F
theorem f181.ok:FnS 181 f181.P sg_l f181.A f181.F:=fnS c181 f181.O [loopAt c181 0] (fun n=>(.cons (f181.l0.ok n) .nil))
def f181.w:FnW E:=fnW 181 f181.P sg_l f181.A f181.F f181.ok
def f152:Nat→Int→Int→Nat→List T→Option (Int × Int × Nat × List T)
 | 0,_,_,_,_=>none
 | n+1,i1,i2,n3,l4 =>
   bd (f181 n n3 l4) fun r5 =>
   let n6:=r5.1
   let l7:=r5.2
   some (i1,i2,n6,l7)
def sg_iil:Sig (Int × Int × Nat × List T) where
 pk:=fun v=>[.int v.1,.int v.2.1,.lst v.2.2.1 v.2.2.2]
 up:=fun ls=>match ls with
  | [.int a0,.int a1,.lst a2 a3]=>some (a0,a1,a2,a3)
  | _=>none
 ok:=by intro _ _ h;split at h <;>cases h;rfl
def f152.P:List Arg:=[qA17]
def f152.A:RAlt (Int × Int × Nat × List T):=.one ⟨[qV6],[none]⟩ sg_iil
def f152.F (n:Nat) (v:Int × Int × Nat × List T):=f152 n v.1 v.2.1 v.2.2.1 v.2.2.2
def f152.O (n:Nat):Orc:=orcOf (E:=E) [f181.w] [] n
theorem f152.ok:FnS 152 f152.P sg_iil f152.A f152.F:=fnS c152 f152.O
def f152.w:FnW E:=fnW 152 f152.P sg_iil f152.A f152.F f152.ok
def f111.l0 (n:Nat):Nat→Nat→List T→Nat→List T→Int→Option (Nat × List T)
 | 0,_,_,_,_,_=>none
 | m+1,n1,l2,n3,l4,i5 =>
   br (decide (i5<(n1:Int))) (
    gd ((decide ((0≤i5)∧(i5<(n1:Int))))&&(okAt [(CK.int .i64),(CK.int .i64),CK.lst] l2 (((Int.toNat i5) * 3)+0))) (
    bd (f152 n (iAt l2 (((Int.toNat i5) * 3)+0)) (iAt l2 ((((Int.toNat i5) * 3)+0)+1)) (nAt l2 (((((Int.toNat i5) * 3)+0)+1)+1)) (lAt l2 (((((Int.toNat i5) * 3)+0)+1)+1))) fun r6 =>
    let i7:=r6.1
    let i8:=r6.2.1
    let n9:=r6.2.2.1
    let l10:=r6.2.2.2
    gd (decide ((0≤i5)∧(i5<(n3:Int)))) (
    gd (Nat.ble ((((Int.toNat i5) * 3)+0)+3) (List.length l4)) (
    let l11:=(setN l4 (((Int.toNat i5) * 3)+0) [(T.int .i64 i7),(T.int .i64 i8),(T.lst n9 l10)])
    f111.l0 n m n1 l2 n3 l11 (IntKind.i64.wrap (i5+(1:Int))))))) (
    some (n3,l4))
def f111:Nat→Nat→List T→Option (Nat × List T)
 | 0,_,_=>none
 | n+1,n1,l2 =>
   gd (decide ((0≤(n1:Int))∧((n1:Int)≤(2147483648:Int)))) (
   let l3:=(reps n1 [(T.int .i64 (0:Int)),(T.int .i64 (0:Int)),(T.lst 0 [])])
   bd (f111.l0 n n n1 l2 n1 l3 (0:Int)) fun r4 =>
   let n5:=r4.1
   let l6:=r4.2
   some (n5,l6))
def f111.l0.P:AS:=⟨[(0,qS24),(3,qS25),(4,qS28)],0⟩
def f111.l0.A:Alt (Nat × List T):=.one (.exit 0) ⟨[(3,qS25)],0⟩ sg_l
def f111.l0.F (n m:Nat) (v:Nat × List T × Nat × List T × Int):=f111.l0 n m v.1 v.2.1 v.2.2.1 v.2.2.2.1 v.2.2.2.2
def f111.l0.W (n:Nat):LpW:=.of 48 f111.l0.P sg_lli f111.l0.A (f111.l0.F n n)
def f111.P:List Arg:=[qA18]
def f111.A:RAlt (Nat × List T):=.one ⟨[qV8],[none]⟩ sg_l
def f111.F (n:Nat) (v:Nat × List T):=f111 n v.1 v.2
def f111.O (n:Nat):Orc:=orcOf (E:=E) [f152.w] [f111.l0.W n] n
theorem f111.l0.ok:∀ n,LpS 111 c111 0 n (f111.O n):=lpS f111.l0.P sg_lli f111.l0.A f111.l0.F
theorem f111.ok:FnS 111 f111.P sg_l f111.A f111.F:=fnS c111 f111.O [loopAt c111 0] (fun n=>(.cons (f111.l0.ok n) .nil))
def f111.w:FnW E:=fnW 111 f111.P sg_l f111.A f111.F f111.ok
def f196:Nat→Int→Int→Nat→List T→Option (Int × Int × Nat × List T)
 | 0,_,_,_,_=>none
 | n+1,i1,i2,n3,l4 =>
   bd (f181 n n3 l4) fun r5 =>
   let n6:=r5.1
   let l7:=r5.2
   some (i1,i2,n6,l7)
def f196.P:List Arg:=[qA17]
def f196.A:RAlt (Int × Int × Nat × List T):=.one ⟨[qV6],[none]⟩ sg_iil
def f196.F (n:Nat) (v:Int × Int × Nat × List T):=f196 n v.1 v.2.1 v.2.2.1 v.2.2.2
def f196.O (n:Nat):Orc:=orcOf (E:=E) [f181.w] [] n
theorem f196.ok:FnS 196 f196.P sg_iil f196.A f196.F:=fnS c196 f196.O
def f196.w:FnW E:=fnW 196 f196.P sg_iil f196.A f196.F f196.ok
def f182.l0 (n:Nat):Nat→Nat→List T→Nat→List T→Int→Option (Nat × List T)
 | 0,_,_,_,_,_=>none
 | m+1,n1,l2,n3,l4,i5 =>
   br (decide (i5<(n1:Int))) (
    gd ((decide ((0≤i5)∧(i5<(n1:Int))))&&(okAt [(CK.int .i64),(CK.int .i64),CK.lst] l2 (((Int.toNat i5) * 3)+0))) (
    bd (f196 n (iAt l2 (((Int.toNat i5) * 3)+0)) (iAt l2 ((((Int.toNat i5) * 3)+0)+1)) (nAt l2 (((((Int.toNat i5) * 3)+0)+1)+1)) (lAt l2 (((((Int.toNat i5) * 3)+0)+1)+1))) fun r6 =>
    let i7:=r6.1
    let i8:=r6.2.1
    let n9:=r6.2.2.1
    let l10:=r6.2.2.2
    gd (decide ((0≤i5)∧(i5<(n3:Int)))) (
    gd (Nat.ble ((((Int.toNat i5) * 3)+0)+3) (List.length l4)) (
    let l11:=(setN l4 (((Int.toNat i5) * 3)+0) [(T.int .i64 i7),(T.int .i64 i8),(T.lst n9 l10)])
    f182.l0 n m n1 l2 n3 l11 (IntKind.i64.wrap (i5+(1:Int))))))) (
    some (n3,l4))
def f182:Nat→Nat→List T→Option (Nat × List T)
 | 0,_,_=>none
 | n+1,n1,l2 =>
   gd (decide ((0≤(n1:Int))∧((n1:Int)≤(2147483648:Int)))) (
   let l3:=(reps n1 [(T.int .i64 (0:Int)),(T.int .i64 (0:Int)),(T.lst 0 [])])
   bd (f182.l0 n n n1 l2 n1 l3 (0:Int)) fun r4 =>
   let n5:=r4.1
   let l6:=r4.2
   some (n5,l6))
def f182.l0.P:AS:=⟨[(0,qS24),(3,qS25),(4,qS28)],0⟩
def f182.l0.A:Alt (Nat × List T):=.one (.exit 0) ⟨[(3,qS25)],0⟩ sg_l
def f182.l0.F (n m:Nat) (v:Nat × List T × Nat × List T × Int):=f182.l0 n m v.1 v.2.1 v.2.2.1 v.2.2.2.1 v.2.2.2.2
def f182.l0.W (n:Nat):LpW:=.of 48 f182.l0.P sg_lli f182.l0.A (f182.l0.F n n)
def f182.P:List Arg:=[qA18]
def f182.A:RAlt (Nat × List T):=.one ⟨[qV8],[none]⟩ sg_l
def f182.F (n:Nat) (v:Nat × List T):=f182 n v.1 v.2
def f182.O (n:Nat):Orc:=orcOf (E:=E) [f196.w] [f182.l0.W n] n
theorem f182.l0.ok:∀ n,LpS 182 c182 0 n (f182.O n):=lpS f182.l0.P sg_lli f182.l0.A f182.l0.F
theorem f182.ok:FnS 182 f182.P sg_l f182.A f182.F:=fnS c182 f182.O [loopAt c182 0] (fun n=>(.cons (f182.l0.ok n) .nil))
def f182.w:FnW E:=fnW 182 f182.P sg_l f182.A f182.F f182.ok
def f153:Nat→Nat→List T→Int→Nat→Bool→Bool→Option (Nat × List T × Int × Nat × Bool × Bool)
 | 0,_,_,_,_,_,_=>none
 | n+1,n1,l2,i3,x4,b5,b6 =>
   bd (f182 n n1 l2) fun r7 =>
   let n8:=r7.1
   let l9:=r7.2
   some (n8,l9,i3,x4,b5,b6)
def sg_lifbb:Sig (Nat × List T × Int × Nat × Bool × Bool) where
 pk:=fun v=>[.lst v.1 v.2.1,.int v.2.2.1,.flt v.2.2.2.1,.bool v.2.2.2.2.1,.bool v.2.2.2.2.2]
 up:=fun ls=>match ls with
  | [.lst a0 a1,.int a2,.flt a3,.bool a4,.bool a5]=>some (a0,a1,a2,a3,a4,a5)
  | _=>none
 ok:=by intro _ _ h;split at h <;>cases h;rfl
def f153.P:List Arg:=[qA19]
def f153.A:RAlt (Nat × List T × Int × Nat × Bool × Bool):=.one ⟨[⟨true,[.sl .own [.leaf,.leaf,.sl .own [.leaf]],.leaf,.leaf,.leaf,.leaf],[.lst 0 [],.int .i64 0,.flt .f32 0,.bool false,.bool false]⟩],[none]⟩ sg_lifbb
def f153.F (n:Nat) (v:Nat × List T × Int × Nat × Bool × Bool):=f153 n v.1 v.2.1 v.2.2.1 v.2.2.2.1 v.2.2.2.2.1 v.2.2.2.2.2
def f153.O (n:Nat):Orc:=orcOf (E:=E) [f182.w] [] n
theorem f153.ok:FnS 153 f153.P sg_lifbb f153.A f153.F:=fnS c153 f153.O
def f153.w:FnW E:=fnW 153 f153.P sg_lifbb f153.A f153.F f153.ok
def f112.l0 (n:Nat):Nat→Nat→List T→Nat→List T→Int→Option (Nat × List T)
 | 0,_,_,_,_,_=>none
 | m+1,n1,l2,n3,l4,i5 =>
   br (decide (i5<(n1:Int))) (
    gd ((decide ((0≤i5)∧(i5<(n1:Int))))&&(okAt [CK.lst,(CK.int .i64),(CK.flt .f32),CK.bool,CK.bool] l2 (((Int.toNat i5) * 5)+0))) (
    bd (f153 n (nAt l2 (((Int.toNat i5) * 5)+0)) (lAt l2 (((Int.toNat i5) * 5)+0)) (iAt l2 ((((Int.toNat i5) * 5)+0)+1)) (fAt l2 (((((Int.toNat i5) * 5)+0)+1)+1)) (bAt l2 ((((((Int.toNat i5) * 5)+0)+1)+1)+1)) (bAt l2 (((((((Int.toNat i5) * 5)+0)+1)+1)+1)+1))) fun r6 =>
    let n7:=r6.1
    let l8:=r6.2.1
    let i9:=r6.2.2.1
    let x10:=r6.2.2.2.1
    let b11:=r6.2.2.2.2.1
    let b12:=r6.2.2.2.2.2
    gd (decide ((0≤i5)∧(i5<(n3:Int)))) (
    gd (Nat.ble ((((Int.toNat i5) * 5)+0)+5) (List.length l4)) (
    let l13:=(setN l4 (((Int.toNat i5) * 5)+0) [(T.lst n7 l8),(T.int .i64 i9),(T.flt .f32 x10),(T.bool b11),(T.bool b12)])
    f112.l0 n m n1 l2 n3 l13 (IntKind.i64.wrap (i5+(1:Int))))))) (
    some (n3,l4))
def f112:Nat→Nat→List T→Option (Nat × List T)
 | 0,_,_=>none
 | n+1,n1,l2 =>
   gd (decide ((0≤(n1:Int))∧((n1:Int)≤(2147483648:Int)))) (
   let l3:=(reps n1 [(T.lst 0 []),(T.int .i64 (0:Int)),(T.flt .f32 0),(T.bool false),(T.bool false)])
   bd (f112.l0 n n n1 l2 n1 l3 (0:Int)) fun r4 =>
   let n5:=r4.1
   let l6:=r4.2
   some (n5,l6))
def f112.l0.P:AS:=⟨[(0,qS23),(3,.val false [.sl .own [.sl .own [.leaf,.leaf,.sl .own [.leaf]],.leaf,.leaf,.leaf,.leaf]] [.lst 0 []] [] 0),(4,qS28)],0⟩
def f112.l0.A:Alt (Nat × List T):=.one (.exit 0) ⟨[(3,.val false [.sl .own [.sl .own [.leaf,.leaf,.sl .own [.leaf]],.leaf,.leaf,.leaf,.leaf]] [.lst 0 []] [] 0)],0⟩ sg_l
def f112.l0.F (n m:Nat) (v:Nat × List T × Nat × List T × Int):=f112.l0 n m v.1 v.2.1 v.2.2.1 v.2.2.2.1 v.2.2.2.2
def f112.l0.W (n:Nat):LpW:=.of 48 f112.l0.P sg_lli f112.l0.A (f112.l0.F n n)
def f112.P:List Arg:=[qA20]
def f112.A:RAlt (Nat × List T):=.one ⟨[qV4],[none]⟩ sg_l
def f112.F (n:Nat) (v:Nat × List T):=f112 n v.1 v.2
def f112.O (n:Nat):Orc:=orcOf (E:=E) [f153.w] [f112.l0.W n] n
theorem f112.l0.ok:∀ n,LpS 112 c112 0 n (f112.O n):=lpS f112.l0.P sg_lli f112.l0.A f112.l0.F
theorem f112.ok:FnS 112 f112.P sg_l f112.A f112.F:=fnS c112 f112.O [loopAt c112 0] (fun n=>(.cons (f112.l0.ok n) .nil))
def f112.w:FnW E:=fnW 112 f112.P sg_l f112.A f112.F f112.ok
def f56:Nat→Nat→List T→Nat→List T→Option (Nat × List T × Nat × List T)
 | 0,_,_,_,_=>none
 | n+1,n1,l2,n3,l4 =>
   bd (f111 n n1 l2) fun r5 =>
   let n6:=r5.1
   let l7:=r5.2
   bd (f112 n n3 l4) fun r8 =>
   let n9:=r8.1
   let l10:=r8.2
   some (n6,l7,n9,l10)
def sg_ll:Sig (Nat × List T × Nat × List T) where
 pk:=fun v=>[.lst v.1 v.2.1,.lst v.2.2.1 v.2.2.2]
 up:=fun ls=>match ls with
  | [.lst a0 a1,.lst a2 a3]=>some (a0,a1,a2,a3)
  | _=>none
 ok:=by intro _ _ h;split at h <;>cases h;rfl
def f56.P:List Arg:=[qA21]
def f56.A:RAlt (Nat × List T × Nat × List T):=.one ⟨[qV1],[none]⟩ sg_ll
def f56.F (n:Nat) (v:Nat × List T × Nat × List T):=f56 n v.1 v.2.1 v.2.2.1 v.2.2.2
def f56.O (n:Nat):Orc:=orcOf (E:=E) [f111.w,f112.w] [] n
theorem f56.ok:FnS 56 f56.P sg_ll f56.A f56.F:=fnS c56 f56.O
def f56.w:FnW E:=fnW 56 f56.P sg_ll f56.A f56.F f56.ok
def f106:Nat→Int→Int→Int→Option (Bool)
 | 0,_,_,_=>none
 | n+1,i1,i2,i3 =>
   br (decide (i1≥i2)) (
    some (decide (i1≤i3))) (
    some false)
def sg_iii:Sig (Int × Int × Int) where
 pk:=fun v=>[.int v.1,.int v.2.1,.int v.2.2]
 up:=fun ls=>match ls with
  | [.int a0,.int a1,.int a2]=>some (a0,a1,a2)
  | _=>none
 ok:=by intro _ _ h;split at h <;>cases h;rfl
def sg_b:Sig (Bool) where
 pk:=fun v=>[.bool v]
 up:=fun ls=>match ls with
  | [.bool a0]=>some a0
  | _=>none
 ok:=by intro _ _ h;split at h <;>cases h;rfl
def f106.P:List Arg:=[qA14,qA14,qA14]
def f106.A:RAlt (Bool):=.one ⟨[qV12],[none,none,none]⟩ sg_b
def f106.F (n:Nat) (v:Int × Int × Int):=f106 n v.1 v.2.1 v.2.2
def f106.O (n:Nat):Orc:=orcOf (E:=E) [] [] n
theorem f106.ok:FnS 106 f106.P sg_iii f106.A f106.F:=fnS c106 f106.O
def f106.w:FnW E:=fnW 106 f106.P sg_iii f106.A f106.F f106.ok
def f145:Nat→Nat→List T→Int→Nat→Bool→Bool→Nat→List T→Option (Nat × List T × Int × Nat × Bool × Bool × Nat × List T)
 | 0,_,_,_,_,_,_,_,_=>none
 | n+1,n1,l2,i3,x4,b5,b6,n7,l8 =>
   some (n7,l8,i3,x4,b5,b6,n7,l8)
def sg_lifbbl:Sig (Nat × List T × Int × Nat × Bool × Bool × Nat × List T) where
 pk:=fun v=>[.lst v.1 v.2.1,.int v.2.2.1,.flt v.2.2.2.1,.bool v.2.2.2.2.1,.bool v.2.2.2.2.2.1,.lst v.2.2.2.2.2.2.1 v.2.2.2.2.2.2.2]
 up:=fun ls=>match ls with
  | [.lst a0 a1,.int a2,.flt a3,.bool a4,.bool a5,.lst a6 a7]=>some (a0,a1,a2,a3,a4,a5,a6,a7)
  | _=>none
 ok:=by intro _ _ h;split at h <;>cases h;rfl
def f145.P:List Arg:=[⟨.val,⟨false,[.rf .shr [.sl .shr [.leaf,.leaf,.sl .shr [.leaf]],.leaf,.leaf,.leaf,.leaf]],[.ref [.lst 0 [],.int .i64 0,.flt .f32 0,.bool false,.bool false]]⟩⟩,⟨.io,qV10⟩]
def f145.A:RAlt (Nat × List T × Int × Nat × Bool × Bool × Nat × List T):=.one ⟨[⟨true,[.sl .own [.leaf],.leaf,.leaf,.leaf,.leaf],[.lst 0 [],.int .i64 0,.flt .f32 0,.bool false,.bool false]⟩],[none,some ⟨false,[.dead],[.lst 0 []]⟩]⟩ sg_lifbbl
def f145.F (n:Nat) (v:Nat × List T × Int × Nat × Bool × Bool × Nat × List T):=f145 n v.1 v.2.1 v.2.2.1 v.2.2.2.1 v.2.2.2.2.1 v.2.2.2.2.2.1 v.2.2.2.2.2.2.1 v.2.2.2.2.2.2.2
def f145.O (n:Nat):Orc:=orcOf (E:=E) [] [] n
theorem f145.ok:FnS 145 f145.P sg_lifbbl f145.A f145.F:=fnS c145 f145.O
def f145.w:FnW E:=fnW 145 f145.P sg_lifbbl f145.A f145.F f145.ok
def f133:Nat→Int→Int→Option (Int × Int)
 | 0,_,_=>none
 | n+1,i1,i2 =>
   br (i1==(0:Int)) (
    br (i1==(0:Int)) (
     some ((1:Int),(0:Int))) (
     br (i1==(1:Int)) (
      some ((5:Int),(2:Int))) (
      br (i1==(2:Int)) (
       some ((2:Int),i2)) (
       br (i1==(3:Int)) (
        some ((4:Int),(1:Int))) (
        br (i1==(5:Int)) (
         some ((0:Int),(0:Int))) (
         br (i1==(6:Int)) (
          some ((2:Int),(IntKind.i64.wrap ((1:Int)+i2)))) (
          some ((-1:Int),(-1:Int))))))))) (
    br (i1==(4:Int)) (
     some ((1:Int),(0:Int))) (
     br (i1==(1:Int)) (
      some ((5:Int),(2:Int))) (
      br (i1==(2:Int)) (
       some ((2:Int),i2)) (
       br (i1==(3:Int)) (
        some ((4:Int),(1:Int))) (
        br (i1==(5:Int)) (
         some ((0:Int),(0:Int))) (
         br (i1==(6:Int)) (
          some ((2:Int),(IntKind.i64.wrap ((1:Int)+i2)))) (
          some ((-1:Int),(-1:Int)))))))))
def sg_ii:Sig (Int × Int) where
 pk:=fun v=>[.int v.1,.int v.2]
 up:=fun ls=>match ls with
  | [.int a0,.int a1]=>some (a0,a1)
  | _=>none
 ok:=by intro _ _ h;split at h <;>cases h;rfl
def f133.P:List Arg:=[qA14,qA14]
def f133.A:RAlt (Int × Int):=.one ⟨[qV11,qV11],[none,none]⟩ sg_ii
def f133.F (n:Nat) (v:Int × Int):=f133 n v.1 v.2
def f133.O (n:Nat):Orc:=orcOf (E:=E) [] [] n
theorem f133.ok:FnS 133 f133.P sg_ii f133.A f133.F:=fnS c133 f133.O
def f133.w:FnW E:=fnW 133 f133.P sg_ii f133.A f133.F f133.ok
def f205:Nat→Nat→Option (Bool)
 | 0,_=>none
 | n+1,x1 =>
   some (feq .f32 (fsub .f32 x1 x1) 0)
def sg_f:Sig (Nat) where
 pk:=fun v=>[.flt v]
 up:=fun ls=>match ls with
  | [.flt a0]=>some a0
  | _=>none
 ok:=by intro _ _ h;split at h <;>cases h;rfl
def f205.P:List Arg:=[qA15]
def f205.A:RAlt (Bool):=.one ⟨[qV12],[none]⟩ sg_b
def f205.F (n:Nat) (v:Nat):=f205 n v
def f205.O (n:Nat):Orc:=orcOf (E:=E) [] [] n
theorem f205.ok:FnS 205 f205.P sg_f f205.A f205.F:=fnS c205 f205.O
def f205.w:FnW E:=fnW 205 f205.P sg_f f205.A f205.F f205.ok
def f194:Nat→Nat→Option (Bool)
 | 0,_=>none
 | n+1,x1 =>
   bd (f205 n x1) fun r2 =>
   let b3:=r2
   br b3 (
    some (fgt .f32 x1 0)) (
    some false)
def f194.P:List Arg:=[qA15]
def f194.A:RAlt (Bool):=.one ⟨[qV12],[none]⟩ sg_b
def f194.F (n:Nat) (v:Nat):=f194 n v
def f194.O (n:Nat):Orc:=orcOf (E:=E) [f205.w] [] n
theorem f194.ok:FnS 194 f194.P sg_f f194.A f194.F:=fnS c194 f194.O
def f194.w:FnW E:=fnW 194 f194.P sg_f f194.A f194.F f194.ok
def f177:Nat→Int→Int→Nat→List T→Option (Bool)
 | 0,_,_,_,_=>none
 | n+1,i1,i2,n3,l4 =>
   br (i1==(2:Int)) (
    br (i1==(6:Int)) (
     bd (f106 n i2 (1:Int) (32:Int)) fun r5 =>
     let b6:=r5
     br (!b6) (
      some false) (
      bd (f133 n i1 i2) fun r7 =>
      let i8:=r7.1
      br ((n3:Int)==i8) (
       br (i1 != (6:Int)) (
        some true) (
        gd ((decide ((0≤(0:Int))∧((0:Int)<(n3:Int))))&&(okAt [(CK.flt .f32)] l4 0)) (
        bd (f194 n (fAt l4 0)) fun r10 =>
        let b11:=r10
        some b11))) (
       some false))) (
     bd (f106 n i2 (1:Int) (32:Int)) fun r12 =>
     let b13:=r12
     br (!b13) (
      some false) (
      bd (f133 n i1 i2) fun r14 =>
      let i15:=r14.1
      br ((n3:Int)==i15) (
       br (i1 != (6:Int)) (
        some true) (
        gd ((decide ((0≤(0:Int))∧((0:Int)<(n3:Int))))&&(okAt [(CK.flt .f32)] l4 0)) (
        bd (f194 n (fAt l4 0)) fun r17 =>
        let b18:=r17
        some b18))) (
       some false)))) (
    br (i1==(6:Int)) (
     bd (f106 n i2 (0:Int) (32:Int)) fun r19 =>
     let b20:=r19
     br (!b20) (
      some false) (
      bd (f133 n i1 i2) fun r21 =>
      let i22:=r21.1
      br ((n3:Int)==i22) (
       br (i1 != (6:Int)) (
        some true) (
        gd ((decide ((0≤(0:Int))∧((0:Int)<(n3:Int))))&&(okAt [(CK.flt .f32)] l4 0)) (
        bd (f194 n (fAt l4 0)) fun r24 =>
        let b25:=r24
        some b25))) (
       some false))) (
     bd (f106 n i2 (0:Int) (0:Int)) fun r26 =>
     let b27:=r26
     br (!b27) (
      some false) (
      bd (f133 n i1 i2) fun r28 =>
      let i29:=r28.1
      br ((n3:Int)==i29) (
       br (i1 != (6:Int)) (
        some true) (
        gd ((decide ((0≤(0:Int))∧((0:Int)<(n3:Int))))&&(okAt [(CK.flt .f32)] l4 0)) (
        bd (f194 n (fAt l4 0)) fun r31 =>
        let b32:=r31
        some b32))) (
       some false))))
def f177.P:List Arg:=[⟨.val,⟨false,[.rf .shr [.leaf,.leaf,.sl .shr [.leaf]]],[.ref [.int .i64 0,.int .i64 0,.lst 0 []]]⟩⟩]
def f177.A:RAlt (Bool):=.one ⟨[qV12],[none]⟩ sg_b
def f177.F (n:Nat) (v:Int × Int × Nat × List T):=f177 n v.1 v.2.1 v.2.2.1 v.2.2.2
def f177.O (n:Nat):Orc:=orcOf (E:=E) [f106.w,f133.w,f194.w] [] n
theorem f177.ok:FnS 177 f177.P sg_iil f177.A f177.F:=fnS c177 f177.O
def f177.w:FnW E:=fnW 177 f177.P sg_iil f177.A f177.F f177.ok
def f146.l0 (n:Nat):Nat→Nat→List T→Int→Option ((Bool) ⊕ (Nat × List T))
 | 0,_,_,_=>none
 | m+1,n1,l2,i3 =>
   br (decide (i3<(n1:Int))) (
    br (decide ((n1:Int)≤(8:Int))) (
     gd ((decide ((0≤i3)∧(i3<(n1:Int))))&&(okAt [(CK.int .i64),(CK.int .i64),CK.lst] l2 (((Int.toNat i3) * 3)+0))) (
     bd (f177 n (iAt l2 (((Int.toNat i3) * 3)+0)) (iAt l2 ((((Int.toNat i3) * 3)+0)+1)) (nAt l2 (((((Int.toNat i3) * 3)+0)+1)+1)) (lAt l2 (((((Int.toNat i3) * 3)+0)+1)+1))) fun r4 =>
     let b5:=r4
     br (!b5) (
      some (Sum.inl false)) (
      f146.l0 n m n1 l2 (IntKind.i64.wrap (i3+(1:Int)))))) (
     some (Sum.inr (n1,l2)))) (
    some (Sum.inr (n1,l2)))
def f146:Nat→Nat→List T→Option (Bool)
 | 0,_,_=>none
 | n+1,n1,l2 =>
   bd (f146.l0 n n n1 l2 (0:Int)) fun r3 =>
   sm r3 (fun u4 =>
    let b5:=u4
    some b5) (fun u6 =>
    let n7:=u6.1
    let l8:=u6.2
    some (decide ((n7:Int)≤(8:Int))))
def f146.l0.P:AS:=⟨[(0,qS24),(3,qS28)],0⟩
def f146.l0.A:Alt ((Bool) ⊕ (Nat × List T)):=.or (.one .ret ⟨[(0,.dead),(2,qS29)],0⟩ sg_b) (.one (.exit 0) ⟨[(0,qS24),(2,.dead)],0⟩ sg_l)
def f146.l0.F (n m:Nat) (v:Nat × List T × Int):=f146.l0 n m v.1 v.2.1 v.2.2
def f146.l0.W (n:Nat):LpW:=.of 32 f146.l0.P sg_li f146.l0.A (f146.l0.F n n)
def f146.P:List Arg:=[qA18]
def f146.A:RAlt (Bool):=.one ⟨[qV12],[none]⟩ sg_b
def f146.F (n:Nat) (v:Nat × List T):=f146 n v.1 v.2
def f146.O (n:Nat):Orc:=orcOf (E:=E) [f177.w] [f146.l0.W n] n
theorem f146.l0.ok:∀ n,LpS 146 c146 0 n (f146.O n):=lpS f146.l0.P sg_li f146.l0.A f146.l0.F
theorem f146.ok:FnS 146 f146.P sg_l f146.A f146.F:=fnS c146 f146.O [loopAt c146 0] (fun n=>(.cons (f146.l0.ok n) .nil))
def f146.w:FnW E:=fnW 146 f146.P sg_l f146.A f146.F f146.ok
def f148:Nat→Nat→List T→Option (Bool)
 | 0,_,_=>none
 | n+1,n1,l2 =>
   some (decide ((n1:Int)≤(256:Int)))
def f148.P:List Arg:=[qA16]
def f148.A:RAlt (Bool):=.one ⟨[qV12],[none]⟩ sg_b
def f148.F (n:Nat) (v:Nat × List T):=f148 n v.1 v.2
def f148.O (n:Nat):Orc:=orcOf (E:=E) [] [] n
theorem f148.ok:FnS 148 f148.P sg_l f148.A f148.F:=fnS c148 f148.O
def f148.w:FnW E:=fnW 148 f148.P sg_l f148.A f148.F f148.ok
def f178:Nat→Nat→Option (Bool)
 | 0,_=>none
 | n+1,x1 =>
   br (fge .f32 x1 0) (
    some (fle .f32 x1 1065353216)) (
    some false)
def f178.P:List Arg:=[qA15]
def f178.A:RAlt (Bool):=.one ⟨[qV12],[none]⟩ sg_b
def f178.F (n:Nat) (v:Nat):=f178 n v
def f178.O (n:Nat):Orc:=orcOf (E:=E) [] [] n
theorem f178.ok:FnS 178 f178.P sg_f f178.A f178.F:=fnS c178 f178.O
def f178.w:FnW E:=fnW 178 f178.P sg_f f178.A f178.F f178.ok
def f147.l0 (n:Nat):Nat→Nat→List T→Int→Int→Option ((Bool) ⊕ (Nat × List T))
 | 0,_,_,_,_=>none
 | m+1,n1,l2,i3,i4 =>
   br (decide (i4<i3)) (
    gd ((decide ((0≤i4)∧(i4<(n1:Int))))&&(okAt [CK.lst,(CK.int .i64),(CK.flt .f32),CK.bool,CK.bool] l2 (((Int.toNat i4) * 5)+0))) (
    bd (f148 n (nAt l2 (((Int.toNat i4) * 5)+0)) (lAt l2 (((Int.toNat i4) * 5)+0))) fun r5 =>
    let b6:=r5
    br (!b6) (
     some (Sum.inl false)) (
     gd ((decide ((0≤i4)∧(i4<(n1:Int))))&&(okAt [CK.lst,(CK.int .i64),(CK.flt .f32),CK.bool,CK.bool] l2 (((Int.toNat i4) * 5)+0))) (
     bd (f106 n (iAt l2 ((((Int.toNat i4) * 5)+0)+1)) (-2000:Int) (2000:Int)) fun r7 =>
     let b8:=r7
     br (!b8) (
      some (Sum.inl false)) (
      gd ((decide ((0≤i4)∧(i4<(n1:Int))))&&(okAt [CK.lst,(CK.int .i64),(CK.flt .f32),CK.bool,CK.bool] l2 (((Int.toNat i4) * 5)+0))) (
      bd (f178 n (fAt l2 (((((Int.toNat i4) * 5)+0)+1)+1))) fun r9 =>
      let b10:=r9
      br (!b10) (
       some (Sum.inl false)) (
       f147.l0 n m n1 l2 i3 (IntKind.i64.wrap (i4+(1:Int)))))))))) (
    some (Sum.inr (n1,l2)))
def f147:Nat→Nat→List T→Option (Bool)
 | 0,_,_=>none
 | n+1,n1,l2 =>
   bd (f147.l0 n n n1 l2 (n1:Int) (0:Int)) fun r3 =>
   sm r3 (fun u4 =>
    let b5:=u4
    some b5) (fun u6 =>
    let n7:=u6.1
    let l8:=u6.2
    some (decide ((n7:Int)≤(8:Int))))
def f147.l0.P:AS:=⟨[(0,.val false [.sl .shr [.sl .shr [.leaf],.leaf,.leaf,.leaf,.leaf]] [.lst 0 []] [] 0),(5,qS28),(6,qS28)],0⟩
def f147.l0.A:Alt ((Bool) ⊕ (Nat × List T)):=.or (.one .ret ⟨[(0,.dead),(2,qS29)],0⟩ sg_b) (.one (.exit 0) ⟨[(0,.val false [.sl .shr [.sl .shr [.leaf],.leaf,.leaf,.leaf,.leaf]] [.lst 0 []] [] 0),(2,.dead)],0⟩ sg_l)
def f147.l0.F (n m:Nat) (v:Nat × List T × Int × Int):=f147.l0 n m v.1 v.2.1 v.2.2.1 v.2.2.2
def f147.l0.W (n:Nat):LpW:=.of 32 f147.l0.P sg_lii f147.l0.A (f147.l0.F n n)
def f147.P:List Arg:=[⟨.val,⟨false,[.sl .shr [.sl .shr [.leaf],.leaf,.leaf,.leaf,.leaf]],[.lst 0 []]⟩⟩]
def f147.A:RAlt (Bool):=.one ⟨[qV12],[none]⟩ sg_b
def f147.F (n:Nat) (v:Nat × List T):=f147 n v.1 v.2
def f147.O (n:Nat):Orc:=orcOf (E:=E) [f106.w,f148.w,f178.w] [f147.l0.W n] n
theorem f147.l0.ok:∀ n,LpS 147 c147 0 n (f147.O n):=lpS f147.l0.P sg_lii f147.l0.A f147.l0.F
theorem f147.ok:FnS 147 f147.P sg_l f147.A f147.F:=fnS c147 f147.O [loopAt c147 0] (fun n=>(.cons (f147.l0.ok n) .nil))
def f147.w:FnW E:=fnW 147 f147.P sg_l f147.A f147.F f147.ok
def f105.l0 (n:Nat):Nat→Nat→List T→Nat→List T→Int→Int→Int→Option ((Bool) ⊕ (Nat × List T × Nat × List T × Int))
 | 0,_,_,_,_,_,_,_=>none
 | m+1,n1,l2,n3,l4,i5,i6,i7 =>
   br (decide (i7<i6)) (
    gd ((decide ((0≤i7)∧(i7<(n3:Int))))&&(okAt [CK.lst,(CK.int .i64),(CK.flt .f32),CK.bool,CK.bool] l4 (((Int.toNat i7) * 5)+0))) (
    bd (f145 n (nAt l4 (((Int.toNat i7) * 5)+0)) (lAt l4 (((Int.toNat i7) * 5)+0)) (iAt l4 ((((Int.toNat i7) * 5)+0)+1)) (fAt l4 (((((Int.toNat i7) * 5)+0)+1)+1)) (bAt l4 ((((((Int.toNat i7) * 5)+0)+1)+1)+1)) (bAt l4 (((((((Int.toNat i7) * 5)+0)+1)+1)+1)+1)) 0 (reps 0 [(T.flt .f32 0)])) fun r8 =>
    let n9:=r8.1
    let l10:=r8.2.1
    let i11:=r8.2.2.1
    let x12:=r8.2.2.2.1
    let b13:=r8.2.2.2.2.1
    let b14:=r8.2.2.2.2.2.1
    gd ((decide ((0≤i7)∧(i7<(n3:Int))))&&(okAt [CK.lst,(CK.int .i64),(CK.flt .f32),CK.bool,CK.bool] l4 (((Int.toNat i7) * 5)+0))) (
    bd (f146 n (nAt l4 (((Int.toNat i7) * 5)+0)) (lAt l4 (((Int.toNat i7) * 5)+0))) fun r17 =>
    let b18:=r17
    br (!b18) (
     some (Sum.inl false)) (
     bd (f147 n 1 (setN (reps 1 [(T.lst 0 []),(T.int .i64 (0:Int)),(T.flt .f32 0),(T.bool false),(T.bool false)]) 0 [(T.lst n9 l10),(T.int .i64 i11),(T.flt .f32 x12),(T.bool b13),(T.bool b14)])) fun r19 =>
     let b20:=r19
     br (!b20) (
      some (Sum.inl false)) (
      f105.l0 n m n1 l2 n3 l4 i5 i6 (IntKind.i64.wrap (i7+(1:Int)))))))) (
    some (Sum.inr (n1,l2,n3,l4,i5)))
def f105.l1 (n:Nat):Nat→Nat→List T→Nat→List T→Int→Int→Int→Option ((Bool) ⊕ (Unit))
 | 0,_,_,_,_,_,_,_=>none
 | m+1,n1,l2,n3,l4,i5,i6,i7 =>
   br (decide (i7<i6)) (
    gd ((decide ((0≤i7)∧(i7<(n1:Int))))&&(okAt [(CK.int .i64),(CK.int .i64),CK.lst] l2 (((Int.toNat i7) * 3)+0))) (
    bd (f106 n (iAt l2 (((Int.toNat i7) * 3)+0)) (0:Int) (IntKind.i64.wrap (i5 - (1:Int)))) fun r8 =>
    let b9:=r8
    br (!b9) (
     some (Sum.inl false)) (
     gd ((decide ((0≤i7)∧(i7<(n1:Int))))&&(okAt [(CK.int .i64),(CK.int .i64),CK.lst] l2 (((Int.toNat i7) * 3)+0))) (
     bd (f106 n (iAt l2 ((((Int.toNat i7) * 3)+0)+1)) (0:Int) (256:Int)) fun r10 =>
     let b11:=r10
     br (!b11) (
      some (Sum.inl false)) (
      gd ((decide ((0≤i7)∧(i7<(n1:Int))))&&(okAt [(CK.int .i64),(CK.int .i64),CK.lst] l2 (((Int.toNat i7) * 3)+0))) (
      bd (f148 n (nAt l2 (((((Int.toNat i7) * 3)+0)+1)+1)) (lAt l2 (((((Int.toNat i7) * 3)+0)+1)+1))) fun r12 =>
      let b13:=r12
      br (!b13) (
       some (Sum.inl false)) (
       f105.l1 n m n1 l2 n3 l4 i5 i6 (IntKind.i64.wrap (i7+(1:Int)))))))))) (
    some (Sum.inr ()))
def f105:Nat→Nat→List T→Nat→List T→Option (Bool)
 | 0,_,_,_,_=>none
 | n+1,n1,l2,n3,l4 =>
   let i5:=(n3:Int)
   bd (f106 n i5 (1:Int) (8:Int)) fun r6 =>
   let b7:=r6
   br (!b7) (
    some false) (
    br (decide ((n1:Int)>(12:Int))) (
     some false) (
     bd (f105.l0 n n n1 l2 n3 l4 i5 (n3:Int) (0:Int)) fun r8 =>
     sm r8 (fun u9 =>
      let b10:=u9
      some b10) (fun u11 =>
      let n12:=u11.1
      let l13:=u11.2.1
      let n14:=u11.2.2.1
      let l15:=u11.2.2.2.1
      let i16:=u11.2.2.2.2
      bd (f105.l1 n n n12 l13 n14 l15 i16 (n12:Int) (0:Int)) fun r17 =>
      sm r17 (fun u18 =>
       let b19:=u18
       some b19) (fun u20 =>
       some true))))
def sg_lliii:Sig (Nat × List T × Nat × List T × Int × Int × Int) where
 pk:=fun v=>[.lst v.1 v.2.1,.lst v.2.2.1 v.2.2.2.1,.int v.2.2.2.2.1,.int v.2.2.2.2.2.1,.int v.2.2.2.2.2.2]
 up:=fun ls=>match ls with
  | [.lst a0 a1,.lst a2 a3,.int a4,.int a5,.int a6]=>some (a0,a1,a2,a3,a4,a5,a6)
  | _=>none
 ok:=by intro _ _ h;split at h <;>cases h;rfl
def sg:Sig (Unit) where
 pk:=fun v=>[]
 up:=fun ls=>match ls with
  | []=>some ()
  | _=>none
 ok:=by intro _ _ h;split at h <;>cases h;rfl
def f105.l0.P:AS:=⟨[(0,qS22),(3,qS28),(27,qS28),(28,qS28)],0⟩
def f105.l0.A:Alt ((Bool) ⊕ (Nat × List T × Nat × List T × Int)):=.or (.one .ret ⟨[(0,.dead),(2,qS29),(3,.dead),(100,.dead)],0⟩ sg_b) (.one (.exit 0) ⟨[(0,qS22),(2,.dead),(3,qS28),(100,.dead)],0⟩ sg_lli)
def f105.l0.F (n m:Nat) (v:Nat × List T × Nat × List T × Int × Int × Int):=f105.l0 n m v.1 v.2.1 v.2.2.1 v.2.2.2.1 v.2.2.2.2.1 v.2.2.2.2.2.1 v.2.2.2.2.2.2
def f105.l0.W (n:Nat):LpW:=.of 80 f105.l0.P sg_lliii f105.l0.A (f105.l0.F n n)
def f105.l1.P:AS:=⟨[(0,qS22),(3,qS28),(60,qS28),(61,qS28)],0⟩
def f105.l1.A:Alt ((Bool) ⊕ (Unit)):=.or (.one .ret ⟨[(2,qS29)],0⟩ sg_b) (.one (.exit 2) ⟨[(2,.dead)],0⟩ sg)
def f105.l1.F (n m:Nat) (v:Nat × List T × Nat × List T × Int × Int × Int):=f105.l1 n m v.1 v.2.1 v.2.2.1 v.2.2.2.1 v.2.2.2.2.1 v.2.2.2.2.2.1 v.2.2.2.2.2.2
def f105.l1.W (n:Nat):LpW:=.of 192 f105.l1.P sg_lliii f105.l1.A (f105.l1.F n n)
def f105.P:List Arg:=[⟨.val,⟨false,[.rf .shr [.sl .shr [.leaf,.leaf,.sl .shr [.leaf]],.sl .shr [.sl .shr [.leaf,.leaf,.sl .shr [.leaf]],.leaf,.leaf,.leaf,.leaf]]],[.ref [.lst 0 [],.lst 0 []]]⟩⟩]
def f105.A:RAlt (Bool):=.one ⟨[qV12],[none]⟩ sg_b
def f105.F (n:Nat) (v:Nat × List T × Nat × List T):=f105 n v.1 v.2.1 v.2.2.1 v.2.2.2
def f105.O (n:Nat):Orc:=orcOf (E:=E) [f106.w,f145.w,f146.w,f148.w,f147.w] [f105.l0.W n,f105.l1.W n] n
theorem f105.l0.ok:∀ n,LpS 105 c105 0 n (f105.O n):=lpS f105.l0.P sg_lliii f105.l0.A f105.l0.F
theorem f105.l1.ok:∀ n,LpS 105 c105 1 n (f105.O n):=lpS f105.l1.P sg_lliii f105.l1.A f105.l1.F
theorem f105.ok:FnS 105 f105.P sg_ll f105.A f105.F:=fnS c105 f105.O [loopAt c105 0,loopAt c105 1] (fun n=>(.cons (f105.l0.ok n) (.cons (f105.l1.ok n) .nil)))
def f105.w:FnW E:=fnW 105 f105.P sg_ll f105.A f105.F f105.ok
def f119:Nat→Nat→List T→Option (Nat × List T)
 | 0,_,_=>none
 | n+1,n1,l2 =>
   gd (Nat.ble (0+n1) 2147483648) (
   some ((0+n1),((reps 0 [(T.flt .f32 0)])++l2)))
def f119.P:List Arg:=[qA16]
def f119.A:RAlt (Nat × List T):=.one ⟨[qV10],[none]⟩ sg_l
def f119.F (n:Nat) (v:Nat × List T):=f119 n v.1 v.2
def f119.O (n:Nat):Orc:=orcOf (E:=E) [] [] n
theorem f119.ok:FnS 119 f119.P sg_l f119.A f119.F:=fnS c119 f119.O
def f119.w:FnW E:=fnW 119 f119.P sg_l f119.A f119.F f119.ok
def f108:Nat→Int→Int→Nat→List T→Option (Int × Int × Nat × List T)
 | 0,_,_,_,_=>none
 | n+1,i1,i2,n3,l4 =>
   bd (f119 n n3 l4) fun r5 =>
   let n6:=r5.1
   let l7:=r5.2
   some (i1,i2,n6,l7)
def f108.P:List Arg:=[⟨.val,⟨false,[.rf .shr [.leaf,.leaf,.sl .shr [.leaf]]],[.ref [.int .i64 0,.int .i64 0,.lst 0 []]]⟩⟩]
def f108.A:RAlt (Int × Int × Nat × List T):=.one ⟨[qV6],[none]⟩ sg_iil
def f108.F (n:Nat) (v:Int × Int × Nat × List T):=f108 n v.1 v.2.1 v.2.2.1 v.2.2.2
def f108.O (n:Nat):Orc:=orcOf (E:=E) [f119.w] [] n
theorem f108.ok:FnS 108 f108.P sg_iil f108.A f108.F:=fnS c108 f108.O
def f108.w:FnW E:=fnW 108 f108.P sg_iil f108.A f108.F f108.ok
def f107.l0 (n:Nat):Nat→Nat→List T→Nat→List T→Nat→List T→Nat→List T→Nat→List T→Nat→List T→Int→Int→Option (Nat × List T × Nat × List T × Nat × List T × Nat × List T × Nat × List T × Nat × List T)
 | 0,_,_,_,_,_,_,_,_,_,_,_,_,_,_=>none
 | m+1,n1,l2,n3,l4,n5,l6,n7,l8,n9,l10,n11,l12,i13,i14 =>
   br (decide (i14<i13)) (
    gd ((decide ((0≤i14)∧(i14<(n1:Int))))&&(okAt [(CK.int .i64),(CK.int .i64),CK.lst] l2 (((Int.toNat i14) * 3)+0))) (
    bd (f108 n (iAt l2 (((Int.toNat i14) * 3)+0)) (iAt l2 ((((Int.toNat i14) * 3)+0)+1)) (nAt l2 (((((Int.toNat i14) * 3)+0)+1)+1)) (lAt l2 (((((Int.toNat i14) * 3)+0)+1)+1))) fun r15 =>
    let i16:=r15.1
    let i17:=r15.2.1
    let n18:=r15.2.2.1
    let l19:=r15.2.2.2
    gd (Nat.ble (n9+1) 2147483648) (
    let n20:=(n9+1)
    let l21:=(l10++(setN (reps 1 [(T.int .i64 (0:Int)),(T.int .i64 (0:Int)),(T.lst 0 [])]) 0 [(T.int .i64 i16),(T.int .i64 i17),(T.lst n18 l19)]))
    f107.l0 n m n1 l2 n3 l4 n5 l6 n7 l8 n20 l21 n11 l12 i13 (IntKind.i64.wrap (i14+(1:Int)))))) (
    some (n1,l2,n3,l4,n5,l6,n7,l8,n9,l10,n11,l12))
termination_by structural x=>x
def f149.l0 (n:Nat):Nat→Nat→List T→Nat→List T→Int→Int→Option (Nat × List T)
 | 0,_,_,_,_,_,_=>none
 | m+1,n1,l2,n3,l4,i5,i6 =>
   br (decide (i6<i5)) (
    gd ((decide ((0≤i6)∧(i6<(n1:Int))))&&(okAt [(CK.int .i64),(CK.int .i64),CK.lst] l2 (((Int.toNat i6) * 3)+0))) (
    let i7:=(iAt l2 (((Int.toNat i6) * 3)+0))
    let i8:=(iAt l2 ((((Int.toNat i6) * 3)+0)+1))
    let n9:=(nAt l2 (((((Int.toNat i6) * 3)+0)+1)+1))
    let l10:=(lAt l2 (((((Int.toNat i6) * 3)+0)+1)+1))
    bd (f119 n n9 l10) fun r11 =>
    let n12:=r11.1
    let l13:=r11.2
    gd (Nat.ble (n3+1) 2147483648) (
    let n14:=(n3+1)
    let l15:=(l4++(setN (reps 1 [(T.int .i64 (0:Int)),(T.int .i64 (0:Int)),(T.lst 0 [])]) 0 [(T.int .i64 i7),(T.int .i64 i8),(T.lst n12 l13)]))
    f149.l0 n m n1 l2 n14 l15 i5 (IntKind.i64.wrap (i6+(1:Int)))))) (
    some (n3,l4))
def f149:Nat→Nat→List T→Option (Nat × List T)
 | 0,_,_=>none
 | n+1,n1,l2 =>
   bd (f149.l0 n n n1 l2 0 (reps 0 [(T.int .i64 (0:Int)),(T.int .i64 (0:Int)),(T.lst 0 [])]) (n1:Int) (0:Int)) fun r3 =>
   let n4:=r3.1
   let l5:=r3.2
   some (n4,l5)
def sg_llii:Sig (Nat × List T × Nat × List T × Int × Int) where
 pk:=fun v=>[.lst v.1 v.2.1,.lst v.2.2.1 v.2.2.2.1,.int v.2.2.2.2.1,.int v.2.2.2.2.2]
 up:=fun ls=>match ls with
  | [.lst a0 a1,.lst a2 a3,.int a4,.int a5]=>some (a0,a1,a2,a3,a4,a5)
  | _=>none
 ok:=by intro _ _ h;split at h <;>cases h;rfl
def f149.l0.P:AS:=⟨[(0,qS24),(3,qS25),(8,qS28),(9,qS28)],0⟩
def f149.l0.A:Alt (Nat × List T):=.one (.exit 0) ⟨[(3,qS25)],0⟩ sg_l
def f149.l0.F (n m:Nat) (v:Nat × List T × Nat × List T × Int × Int):=f149.l0 n m v.1 v.2.1 v.2.2.1 v.2.2.2.1 v.2.2.2.2.1 v.2.2.2.2.2
def f149.l0.W (n:Nat):LpW:=.of 48 f149.l0.P sg_llii f149.l0.A (f149.l0.F n n)
def f149.P:List Arg:=[qA18]
def f149.A:RAlt (Nat × List T):=.one ⟨[qV8],[none]⟩ sg_l
def f149.F (n:Nat) (v:Nat × List T):=f149 n v.1 v.2
def f149.O (n:Nat):Orc:=orcOf (E:=E) [f119.w] [f149.l0.W n] n
theorem f149.l0.ok:∀ n,LpS 149 c149 0 n (f149.O n):=lpS f149.l0.P sg_llii f149.l0.A f149.l0.F
theorem f149.ok:FnS 149 f149.P sg_l f149.A f149.F:=fnS c149 f149.O [loopAt c149 0] (fun n=>(.cons (f149.l0.ok n) .nil))
def f149.w:FnW E:=fnW 149 f149.P sg_l f149.A f149.F f149.ok
def f107.l1 (n:Nat):Nat→Nat→List T→Nat→List T→Nat→List T→Nat→List T→Nat→List T→Nat→List T→Int→Int→Option (Nat × List T × Nat × List T × Nat × List T × Nat × List T)
 | 0,_,_,_,_,_,_,_,_,_,_,_,_,_,_=>none
 | m+1,n1,l2,n3,l4,n5,l6,n7,l8,n9,l10,n11,l12,i13,i14 =>
   br (decide (i14<i13)) (
    gd ((decide ((0≤i14)∧(i14<(n3:Int))))&&(okAt [CK.lst,(CK.int .i64),(CK.flt .f32),CK.bool,CK.bool] l4 (((Int.toNat i14) * 5)+0))) (
    let n15:=(nAt l4 (((Int.toNat i14) * 5)+0))
    let l16:=(lAt l4 (((Int.toNat i14) * 5)+0))
    let i17:=(iAt l4 ((((Int.toNat i14) * 5)+0)+1))
    let x18:=(fAt l4 (((((Int.toNat i14) * 5)+0)+1)+1))
    let b19:=(bAt l4 ((((((Int.toNat i14) * 5)+0)+1)+1)+1))
    let b20:=(bAt l4 (((((((Int.toNat i14) * 5)+0)+1)+1)+1)+1))
    bd (f149 n n15 l16) fun r21 =>
    let n22:=r21.1
    let l23:=r21.2
    gd (Nat.ble (n11+1) 2147483648) (
    let n24:=(n11+1)
    let l25:=(l12++(setN (reps 1 [(T.lst 0 []),(T.int .i64 (0:Int)),(T.flt .f32 0),(T.bool false),(T.bool false)]) 0 [(T.lst n22 l23),(T.int .i64 i17),(T.flt .f32 x18),(T.bool b19),(T.bool b20)]))
    f107.l1 n m n1 l2 n3 l4 n5 l6 n7 l8 n9 l10 n24 l25 i13 (IntKind.i64.wrap (i14+(1:Int)))))) (
    some (n5,l6,n7,l8,n9,l10,n11,l12))
termination_by structural x=>x
def f107:Nat→Nat→List T→Nat→List T→Option (Nat × List T × Nat × List T)
 | 0,_,_,_,_=>none
 | n+1,n1,l2,n3,l4 =>
   bd (f107.l0 n n n1 l2 n3 l4 0 [] 0 [] 0 (reps 0 [(T.int .i64 (0:Int)),(T.int .i64 (0:Int)),(T.lst 0 [])]) 0 (reps 0 [(T.lst 0 []),(T.int .i64 (0:Int)),(T.flt .f32 0),(T.bool false),(T.bool false)]) (n1:Int) (0:Int)) fun r5 =>
   let n6:=r5.1
   let l7:=r5.2.1
   let n8:=r5.2.2.1
   let l9:=r5.2.2.2.1
   let n10:=r5.2.2.2.2.1
   let l11:=r5.2.2.2.2.2.1
   let n12:=r5.2.2.2.2.2.2.1
   let l13:=r5.2.2.2.2.2.2.2.1
   let n14:=r5.2.2.2.2.2.2.2.2.1
   let l15:=r5.2.2.2.2.2.2.2.2.2.1
   let n16:=r5.2.2.2.2.2.2.2.2.2.2.1
   let l17:=r5.2.2.2.2.2.2.2.2.2.2.2
   bd (f107.l1 n n n6 l7 n8 l9 n10 l11 n12 l13 n14 l15 n16 l17 (n8:Int) (0:Int)) fun r18 =>
   let n23:=r18.2.2.2.2.1
   let l24:=r18.2.2.2.2.2.1
   let n25:=r18.2.2.2.2.2.2.1
   let l26:=r18.2.2.2.2.2.2.2
   some (n23,l24,n25,l26)
def sg_llllllii:Sig (Nat × List T × Nat × List T × Nat × List T × Nat × List T × Nat × List T × Nat × List T × Int × Int) where
 pk:=fun v=>[.lst v.1 v.2.1,.lst v.2.2.1 v.2.2.2.1,.lst v.2.2.2.2.1 v.2.2.2.2.2.1,.lst v.2.2.2.2.2.2.1 v.2.2.2.2.2.2.2.1,.lst v.2.2.2.2.2.2.2.2.1 v.2.2.2.2.2.2.2.2.2.1,.lst v.2.2.2.2.2.2.2.2.2.2.1 v.2.2.2.2.2.2.2.2.2.2.2.1,.int v.2.2.2.2.2.2.2.2.2.2.2.2.1,.int v.2.2.2.2.2.2.2.2.2.2.2.2.2]
 up:=fun ls=>match ls with
  | [.lst a0 a1,.lst a2 a3,.lst a4 a5,.lst a6 a7,.lst a8 a9,.lst a10 a11,.int a12,.int a13]=>some (a0,a1,a2,a3,a4,a5,a6,a7,a8,a9,a10,a11,a12,a13)
  | _=>none
 ok:=by intro _ _ h;split at h <;>cases h;rfl
def sg_llllll:Sig (Nat × List T × Nat × List T × Nat × List T × Nat × List T × Nat × List T × Nat × List T) where
 pk:=fun v=>[.lst v.1 v.2.1,.lst v.2.2.1 v.2.2.2.1,.lst v.2.2.2.2.1 v.2.2.2.2.2.1,.lst v.2.2.2.2.2.2.1 v.2.2.2.2.2.2.2.1,.lst v.2.2.2.2.2.2.2.2.1 v.2.2.2.2.2.2.2.2.2.1,.lst v.2.2.2.2.2.2.2.2.2.2.1 v.2.2.2.2.2.2.2.2.2.2.2]
 up:=fun ls=>match ls with
  | [.lst a0 a1,.lst a2 a3,.lst a4 a5,.lst a6 a7,.lst a8 a9,.lst a10 a11]=>some (a0,a1,a2,a3,a4,a5,a6,a7,a8,a9,a10,a11)
  | _=>none
 ok:=by intro _ _ h;split at h <;>cases h;rfl
def sg_llll:Sig (Nat × List T × Nat × List T × Nat × List T × Nat × List T) where
 pk:=fun v=>[.lst v.1 v.2.1,.lst v.2.2.1 v.2.2.2.1,.lst v.2.2.2.2.1 v.2.2.2.2.2.1,.lst v.2.2.2.2.2.2.1 v.2.2.2.2.2.2.2]
 up:=fun ls=>match ls with
  | [.lst a0 a1,.lst a2 a3,.lst a4 a5,.lst a6 a7]=>some (a0,a1,a2,a3,a4,a5,a6,a7)
  | _=>none
 ok:=by intro _ _ h;split at h <;>cases h;rfl
def f107.l0.P:AS:=⟨[(0,qS22),(2,.box [.sl .own [.leaf,.leaf,.sl .own [.leaf]],.sl .own [.sl .own [.leaf,.leaf,.sl .own [.leaf]],.leaf,.leaf,.leaf,.leaf]] [.lst 0 [],.lst 0 []] [] 0),(3,.box [.sl .own [.leaf,.leaf,.sl .own [.leaf]],.sl .own [.sl .own [.leaf,.leaf,.sl .own [.leaf]],.leaf,.leaf,.leaf,.leaf]] [.lst 0 [],.lst 0 []] [] 0),(14,qS28),(15,qS28)],0⟩
def f107.l0.A:Alt (Nat × List T × Nat × List T × Nat × List T × Nat × List T × Nat × List T × Nat × List T):=.one (.exit 0) ⟨[(0,qS22),(2,.box [.sl .own [.leaf,.leaf,.sl .own [.leaf]],.sl .own [.sl .own [.leaf,.leaf,.sl .own [.leaf]],.leaf,.leaf,.leaf,.leaf]] [.lst 0 [],.lst 0 []] [] 0),(3,.box [.sl .own [.leaf,.leaf,.sl .own [.leaf]],.sl .own [.sl .own [.leaf,.leaf,.sl .own [.leaf]],.leaf,.leaf,.leaf,.leaf]] [.lst 0 [],.lst 0 []] [] 0),(56,.dead)],0⟩ sg_llllll
def f107.l0.F (n m:Nat) (v:Nat × List T × Nat × List T × Nat × List T × Nat × List T × Nat × List T × Nat × List T × Int × Int):=f107.l0 n m v.1 v.2.1 v.2.2.1 v.2.2.2.1 v.2.2.2.2.1 v.2.2.2.2.2.1 v.2.2.2.2.2.2.1 v.2.2.2.2.2.2.2.1 v.2.2.2.2.2.2.2.2.1 v.2.2.2.2.2.2.2.2.2.1 v.2.2.2.2.2.2.2.2.2.2.1 v.2.2.2.2.2.2.2.2.2.2.2.1 v.2.2.2.2.2.2.2.2.2.2.2.2.1 v.2.2.2.2.2.2.2.2.2.2.2.2.2
def f107.l0.W (n:Nat):LpW:=.of 48 f107.l0.P sg_llllllii f107.l0.A (f107.l0.F n n)
def f107.l1.P:AS:=⟨[(0,qS22),(2,.box [.sl .own [.leaf,.leaf,.sl .own [.leaf]],.sl .own [.sl .own [.leaf,.leaf,.sl .own [.leaf]],.leaf,.leaf,.leaf,.leaf]] [.lst 0 [],.lst 0 []] [] 0),(3,.box [.sl .own [.leaf,.leaf,.sl .own [.leaf]],.sl .own [.sl .own [.leaf,.leaf,.sl .own [.leaf]],.leaf,.leaf,.leaf,.leaf]] [.lst 0 [],.lst 0 []] [] 0),(35,qS28),(36,qS28)],0⟩
def f107.l1.A:Alt (Nat × List T × Nat × List T × Nat × List T × Nat × List T):=.one (.exit 2) ⟨[(2,.box [.sl .own [.leaf,.leaf,.sl .own [.leaf]],.sl .own [.sl .own [.leaf,.leaf,.sl .own [.leaf]],.leaf,.leaf,.leaf,.leaf]] [.lst 0 [],.lst 0 []] [] 0),(3,.box [.sl .own [.leaf,.leaf,.sl .own [.leaf]],.sl .own [.sl .own [.leaf,.leaf,.sl .own [.leaf]],.leaf,.leaf,.leaf,.leaf]] [.lst 0 [],.lst 0 []] [] 0)],0⟩ sg_llll
def f107.l1.F (n m:Nat) (v:Nat × List T × Nat × List T × Nat × List T × Nat × List T × Nat × List T × Nat × List T × Int × Int):=f107.l1 n m v.1 v.2.1 v.2.2.1 v.2.2.2.1 v.2.2.2.2.1 v.2.2.2.2.2.1 v.2.2.2.2.2.2.1 v.2.2.2.2.2.2.2.1 v.2.2.2.2.2.2.2.2.1 v.2.2.2.2.2.2.2.2.2.1 v.2.2.2.2.2.2.2.2.2.2.1 v.2.2.2.2.2.2.2.2.2.2.2.1 v.2.2.2.2.2.2.2.2.2.2.2.2.1 v.2.2.2.2.2.2.2.2.2.2.2.2.2
def f107.l1.W (n:Nat):LpW:=.of 128 f107.l1.P sg_llllllii f107.l1.A (f107.l1.F n n)
def f107.P:List Arg:=[⟨.val,⟨false,[.rf .shr [.sl .shr [.leaf,.leaf,.sl .shr [.leaf]],.sl .shr [.sl .shr [.leaf,.leaf,.sl .shr [.leaf]],.leaf,.leaf,.leaf,.leaf]]],[.ref [.lst 0 [],.lst 0 []]]⟩⟩]
def f107.A:RAlt (Nat × List T × Nat × List T):=.one ⟨[qV1],[none]⟩ sg_ll
def f107.F (n:Nat) (v:Nat × List T × Nat × List T):=f107 n v.1 v.2.1 v.2.2.1 v.2.2.2
def f107.O (n:Nat):Orc:=orcOf (E:=E) [f108.w,f149.w] [f107.l0.W n,f107.l1.W n] n
theorem f107.l0.ok:∀ n,LpS 107 c107 0 n (f107.O n):=lpS f107.l0.P sg_llllllii f107.l0.A f107.l0.F
theorem f107.l1.ok:∀ n,LpS 107 c107 1 n (f107.O n):=lpS f107.l1.P sg_llllllii f107.l1.A f107.l1.F
theorem f107.ok:FnS 107 f107.P sg_ll f107.A f107.F:=fnS c107 f107.O [loopAt c107 0,loopAt c107 1] (fun n=>(.cons (f107.l0.ok n) (.cons (f107.l1.ok n) .nil)))
def f107.w:FnW E:=fnW 107 f107.P sg_ll f107.A f107.F f107.ok
def f54.l0 (n:Nat):Nat→Int→Int→Nat→List T→Nat→List T→Nat→List T→Nat→List T→Nat→List T→Nat→List T→Int→Option (Nat × List T × Nat × List T × Nat × List T × Nat × List T)
 | 0,_,_,_,_,_,_,_,_,_,_,_,_,_,_,_=>none
 | m+1,i1,i2,n3,l4,n5,l6,n7,l8,n9,l10,n11,l12,n13,l14,i15 =>
   br (decide (i15≤i2)) (
    gd ((decide ((0≤i1)∧(i1<(n3:Int))))&&(okAt [(CK.int .i64),(CK.int .i64),CK.lst] l4 (((Int.toNat i1) * 3)+0))) (
    bd (f108 n (iAt l4 (((Int.toNat i1) * 3)+0)) (iAt l4 ((((Int.toNat i1) * 3)+0)+1)) (nAt l4 (((((Int.toNat i1) * 3)+0)+1)+1)) (lAt l4 (((((Int.toNat i1) * 3)+0)+1)+1))) fun r16 =>
    let i17:=r16.1
    let i18:=r16.2.1
    let n19:=r16.2.2.1
    let l20:=r16.2.2.2
    let i21:=(IntKind.i64.wrap (i18+(IntKind.i64.wrap (i15 * (n19:Int)))))
    gd (Nat.ble (n11+1) 2147483648) (
    let n22:=(n11+1)
    let l23:=(l12++(setN (reps 1 [(T.int .i64 (0:Int)),(T.int .i64 (0:Int)),(T.lst 0 [])]) 0 [(T.int .i64 i17),(T.int .i64 i21),(T.lst n19 l20)]))
    f54.l0 n m i1 i2 n3 l4 n5 l6 n7 l8 n9 l10 n22 l23 n13 l14 (IntKind.i64.wrap (i15+(1:Int)))))) (
    some (n7,l8,n9,l10,n11,l12,n13,l14))
termination_by structural x=>x
def f54:Nat→Nat→List T→Nat→List T→Int→Int→Option (Nat × List T × Nat × List T × Bool)
 | 0,_,_,_,_,_,_=>none
 | n+1,n1,l2,n3,l4,i5,i6 =>
   bd (f105 n n1 l2 n3 l4) fun r7 =>
   let b8:=r7
   br (!b8) (
    some (0,[],0,[],false)) (
    bd (f106 n i5 (0:Int) (IntKind.i64.wrap ((n1:Int) - (1:Int)))) fun r9 =>
    let b10:=r9
    br (!b10) (
     some (0,[],0,[],false)) (
     bd (f106 n i6 (1:Int) (12:Int)) fun r11 =>
     let b12:=r11
     br (!b12) (
      some (0,[],0,[],false)) (
      gd ((decide ((0≤i5)∧(i5<(n1:Int))))&&(okAt [(CK.int .i64),(CK.int .i64),CK.lst] l2 (((Int.toNat i5) * 3)+0))) (
      br ((((nAt l2 (((((Int.toNat i5) * 3)+0)+1)+1)):Nat):Int)==(0:Int)) (
       some (0,[],0,[],false)) (
       bd (f107 n n1 l2 n3 l4) fun r13 =>
       let n14:=r13.1
       let l15:=r13.2.1
       let n16:=r13.2.2.1
       let l17:=r13.2.2.2
       bd (f54.l0 n n i5 i6 n1 l2 n3 l4 0 [] 0 [] n14 l15 n16 l17 (1:Int)) fun r18 =>
       let n23:=r18.2.2.2.2.1
       let l24:=r18.2.2.2.2.2.1
       let n25:=r18.2.2.2.2.2.2.1
       let l26:=r18.2.2.2.2.2.2.2
       bd (f105 n n23 l24 n25 l26) fun r27 =>
       let b28:=r27
       br (!b28) (
        some (0,[],0,[],false)) (
        some (n23,l24,n25,l26,true)))))))
def sg_llb:Sig (Nat × List T × Nat × List T × Bool) where
 pk:=fun v=>[.lst v.1 v.2.1,.lst v.2.2.1 v.2.2.2.1,.bool v.2.2.2.2]
 up:=fun ls=>match ls with
  | [.lst a0 a1,.lst a2 a3,.bool a4]=>some (a0,a1,a2,a3,a4)
  | _=>none
 ok:=by intro _ _ h;split at h <;>cases h;rfl
def sg_iilllllli:Sig (Int × Int × Nat × List T × Nat × List T × Nat × List T × Nat × List T × Nat × List T × Nat × List T × Int) where
 pk:=fun v=>[.int v.1,.int v.2.1,.lst v.2.2.1 v.2.2.2.1,.lst v.2.2.2.2.1 v.2.2.2.2.2.1,.lst v.2.2.2.2.2.2.1 v.2.2.2.2.2.2.2.1,.lst v.2.2.2.2.2.2.2.2.1 v.2.2.2.2.2.2.2.2.2.1,.lst v.2.2.2.2.2.2.2.2.2.2.1 v.2.2.2.2.2.2.2.2.2.2.2.1,.lst v.2.2.2.2.2.2.2.2.2.2.2.2.1 v.2.2.2.2.2.2.2.2.2.2.2.2.2.1,.int v.2.2.2.2.2.2.2.2.2.2.2.2.2.2]
 up:=fun ls=>match ls with
  | [.int a0,.int a1,.lst a2 a3,.lst a4 a5,.lst a6 a7,.lst a8 a9,.lst a10 a11,.lst a12 a13,.int a14]=>some (a0,a1,a2,a3,a4,a5,a6,a7,a8,a9,a10,a11,a12,a13,a14)
  | _=>none
 ok:=by intro _ _ h;split at h <;>cases h;rfl
def f54.l0.P:AS:=⟨[(1,qS28),(2,qS28),(3,.box [.sl .shr [.leaf,.leaf,.sl .shr [.leaf]],.sl .shr [.sl .shr [.leaf,.leaf,.sl .shr [.leaf]],.leaf,.leaf,.leaf,.leaf]] [.lst 0 [],.lst 0 []] [] 0),(6,.box [.sl .own [.leaf,.leaf,.sl .own [.leaf]],.sl .own [.sl .own [.leaf,.leaf,.sl .own [.leaf]],.leaf,.leaf,.leaf,.leaf]] [.lst 0 [],.lst 0 []] [] 0),(8,.box [.sl .own [.leaf,.leaf,.sl .own [.leaf]],.sl .own [.sl .own [.leaf,.leaf,.sl .own [.leaf]],.leaf,.leaf,.leaf,.leaf]] [.lst 0 [],.lst 0 []] [] 0),(9,qS28)],0⟩
def f54.l0.A:Alt (Nat × List T × Nat × List T × Nat × List T × Nat × List T):=.one (.exit 0) ⟨[(6,.box [.sl .own [.leaf,.leaf,.sl .own [.leaf]],.sl .own [.sl .own [.leaf,.leaf,.sl .own [.leaf]],.leaf,.leaf,.leaf,.leaf]] [.lst 0 [],.lst 0 []] [] 0),(8,.box [.sl .own [.leaf,.leaf,.sl .own [.leaf]],.sl .own [.sl .own [.leaf,.leaf,.sl .own [.leaf]],.leaf,.leaf,.leaf,.leaf]] [.lst 0 [],.lst 0 []] [] 0)],0⟩ sg_llll
def f54.l0.F (n m:Nat) (v:Int × Int × Nat × List T × Nat × List T × Nat × List T × Nat × List T × Nat × List T × Nat × List T × Int):=f54.l0 n m v.1 v.2.1 v.2.2.1 v.2.2.2.1 v.2.2.2.2.1 v.2.2.2.2.2.1 v.2.2.2.2.2.2.1 v.2.2.2.2.2.2.2.1 v.2.2.2.2.2.2.2.2.1 v.2.2.2.2.2.2.2.2.2.1 v.2.2.2.2.2.2.2.2.2.2.1 v.2.2.2.2.2.2.2.2.2.2.2.1 v.2.2.2.2.2.2.2.2.2.2.2.2.1 v.2.2.2.2.2.2.2.2.2.2.2.2.2.1 v.2.2.2.2.2.2.2.2.2.2.2.2.2.2
def f54.l0.W (n:Nat):LpW:=.of 80 f54.l0.P sg_iilllllli f54.l0.A (f54.l0.F n n)
def f54.P:List Arg:=[qA21,qA14,qA14]
def f54.A:RAlt (Nat × List T × Nat × List T × Bool):=.one ⟨[qV1,qV12],[none,none,none]⟩ sg_llb
def f54.F (n:Nat) (v:Nat × List T × Nat × List T × Int × Int):=f54 n v.1 v.2.1 v.2.2.1 v.2.2.2.1 v.2.2.2.2.1 v.2.2.2.2.2
def f54.O (n:Nat):Orc:=orcOf (E:=E) [f106.w,f105.w,f108.w,f107.w] [f54.l0.W n] n
theorem f54.l0.ok:∀ n,LpS 54 c54 0 n (f54.O n):=lpS f54.l0.P sg_iilllllli f54.l0.A f54.l0.F
theorem f54.ok:FnS 54 f54.P sg_llii f54.A f54.F:=fnS c54 f54.O [loopAt c54 0] (fun n=>(.cons (f54.l0.ok n) .nil))
def f54.w:FnW E:=fnW 54 f54.P sg_llii f54.A f54.F f54.ok
def f87:Nat→Int→Option (Int)
 | 0,_=>none
 | n+1,i1 =>
   some i1
def f87.P:List Arg:=[qA14]
def f87.A:RAlt (Int):=.one ⟨[qV11],[none]⟩ sg_i
def f87.F (n:Nat) (v:Int):=f87 n v
def f87.O (n:Nat):Orc:=orcOf (E:=E) [] [] n
theorem f87.ok:FnS 87 f87.P sg_i f87.A f87.F:=fnS c87 f87.O
def f87.w:FnW E:=fnW 87 f87.P sg_i f87.A f87.F f87.ok
def f67:Nat→Int→Int→Int→Option (Bool)
 | 0,_,_,_=>none
 | n+1,i1,i2,i3 =>
   br (decide (i2≤i1)) (
    some (decide (i1≤i3))) (
    some false)
def f67.P:List Arg:=[qA14,qA14,qA14]
def f67.A:RAlt (Bool):=.one ⟨[qV12],[none,none,none]⟩ sg_b
def f67.F (n:Nat) (v:Int × Int × Int):=f67 n v.1 v.2.1 v.2.2
def f67.O (n:Nat):Orc:=orcOf (E:=E) [] [] n
theorem f67.ok:FnS 67 f67.P sg_iii f67.A f67.F:=fnS c67 f67.O
def f67.w:FnW E:=fnW 67 f67.P sg_iii f67.A f67.F f67.ok
def f89:Nat→Int→Option (Bool)
 | 0,_=>none
 | n+1,i1 =>
   bd (f67 n i1 (1:Int) (8:Int)) fun r2 =>
   let b3:=r2
   some b3
def f89.P:List Arg:=[qA14]
def f89.A:RAlt (Bool):=.one ⟨[qV12],[none]⟩ sg_b
def f89.F (n:Nat) (v:Int):=f89 n v
def f89.O (n:Nat):Orc:=orcOf (E:=E) [f67.w] [] n
theorem f89.ok:FnS 89 f89.P sg_i f89.A f89.F:=fnS c89 f89.O
def f89.w:FnW E:=fnW 89 f89.P sg_i f89.A f89.F f89.ok
def f136:Nat→Int→Int→Nat→List T→Int→Int→Int→Option (Bool)
 | 0,_,_,_,_,_,_,_=>none
 | n+1,i1,i2,n3,l4,i5,i6,i7 =>
   bd (f67 n i2 i5 i6) fun r8 =>
   let b9:=r8
   br b9 (
    some ((n3:Int)==i7)) (
    some false)
def sg_iiliii:Sig (Int × Int × Nat × List T × Int × Int × Int) where
 pk:=fun v=>[.int v.1,.int v.2.1,.lst v.2.2.1 v.2.2.2.1,.int v.2.2.2.2.1,.int v.2.2.2.2.2.1,.int v.2.2.2.2.2.2]
 up:=fun ls=>match ls with
  | [.int a0,.int a1,.lst a2 a3,.int a4,.int a5,.int a6]=>some (a0,a1,a2,a3,a4,a5,a6)
  | _=>none
 ok:=by intro _ _ h;split at h <;>cases h;rfl
def f136.P:List Arg:=[qA17,qA14,qA14,qA14]
def f136.A:RAlt (Bool):=.one ⟨[qV12],[none,none,none,none]⟩ sg_b
def f136.F (n:Nat) (v:Int × Int × Nat × List T × Int × Int × Int):=f136 n v.1 v.2.1 v.2.2.1 v.2.2.2.1 v.2.2.2.2.1 v.2.2.2.2.2.1 v.2.2.2.2.2.2
def f136.O (n:Nat):Orc:=orcOf (E:=E) [f67.w] [] n
theorem f136.ok:FnS 136 f136.P sg_iiliii f136.A f136.F:=fnS c136 f136.O
def f136.w:FnW E:=fnW 136 f136.P sg_iiliii f136.A f136.F f136.ok
def f174:Nat→Nat→Option (Bool)
 | 0,_=>none
 | n+1,x1 =>
   some (feq .f32 (fsub .f32 x1 x1) 0)
def f174.P:List Arg:=[qA15]
def f174.A:RAlt (Bool):=.one ⟨[qV12],[none]⟩ sg_b
def f174.F (n:Nat) (v:Nat):=f174 n v
def f174.O (n:Nat):Orc:=orcOf (E:=E) [] [] n
theorem f174.ok:FnS 174 f174.P sg_f f174.A f174.F:=fnS c174 f174.O
def f174.w:FnW E:=fnW 174 f174.P sg_f f174.A f174.F f174.ok
def f137:Nat→Nat→Option (Bool)
 | 0,_=>none
 | n+1,x1 =>
   bd (f174 n x1) fun r2 =>
   let b3:=r2
   br b3 (
    some (fgt .f32 x1 0)) (
    some false)
def f137.P:List Arg:=[qA15]
def f137.A:RAlt (Bool):=.one ⟨[qV12],[none]⟩ sg_b
def f137.F (n:Nat) (v:Nat):=f137 n v
def f137.O (n:Nat):Orc:=orcOf (E:=E) [f174.w] [] n
theorem f137.ok:FnS 137 f137.P sg_f f137.A f137.F:=fnS c137 f137.O
def f137.w:FnW E:=fnW 137 f137.P sg_f f137.A f137.F f137.ok
def f76:Nat→Int→Int→Nat→List T→Option (Bool)
 | 0,_,_,_,_=>none
 | n+1,i1,i2,n3,l4 =>
   br (i1==(0:Int)) (
    br (i1==(0:Int)) (
     bd (f136 n i1 i2 n3 l4 (0:Int) (0:Int) (1:Int)) fun r5 =>
     let b6:=r5
     some b6) (
     br (i1==(1:Int)) (
      bd (f136 n i1 i2 n3 l4 (0:Int) (0:Int) (5:Int)) fun r7 =>
      let b8:=r7
      some b8) (
      br (i1==(2:Int)) (
       bd (f136 n i1 i2 n3 l4 (1:Int) (32:Int) (2:Int)) fun r9 =>
       let b10:=r9
       some b10) (
       br (i1==(3:Int)) (
        bd (f136 n i1 i2 n3 l4 (0:Int) (0:Int) (4:Int)) fun r11 =>
        let b12:=r11
        some b12) (
        br (i1==(5:Int)) (
         bd (f136 n i1 i2 n3 l4 (0:Int) (0:Int) (0:Int)) fun r13 =>
         let b14:=r13
         some b14) (
         br (i1==(6:Int)) (
          bd (f136 n i1 i2 n3 l4 (0:Int) (32:Int) (2:Int)) fun r15 =>
          let b16:=r15
          br b16 (
           gd ((decide ((0≤(0:Int))∧((0:Int)<(n3:Int))))&&(okAt [(CK.flt .f32)] l4 0)) (
           bd (f137 n (fAt l4 0)) fun r17 =>
           let b18:=r17
           some b18)) (
           some false)) (
          some false))))))) (
    br (i1==(4:Int)) (
     bd (f136 n i1 i2 n3 l4 (0:Int) (0:Int) (1:Int)) fun r19 =>
     let b20:=r19
     some b20) (
     br (i1==(1:Int)) (
      bd (f136 n i1 i2 n3 l4 (0:Int) (0:Int) (5:Int)) fun r21 =>
      let b22:=r21
      some b22) (
      br (i1==(2:Int)) (
       bd (f136 n i1 i2 n3 l4 (1:Int) (32:Int) (2:Int)) fun r23 =>
       let b24:=r23
       some b24) (
       br (i1==(3:Int)) (
        bd (f136 n i1 i2 n3 l4 (0:Int) (0:Int) (4:Int)) fun r25 =>
        let b26:=r25
        some b26) (
        br (i1==(5:Int)) (
         bd (f136 n i1 i2 n3 l4 (0:Int) (0:Int) (0:Int)) fun r27 =>
         let b28:=r27
         some b28) (
         br (i1==(6:Int)) (
          bd (f136 n i1 i2 n3 l4 (0:Int) (32:Int) (2:Int)) fun r29 =>
          let b30:=r29
          br b30 (
           gd ((decide ((0≤(0:Int))∧((0:Int)<(n3:Int))))&&(okAt [(CK.flt .f32)] l4 0)) (
           bd (f137 n (fAt l4 0)) fun r31 =>
           let b32:=r31
           some b32)) (
           some false)) (
          some false)))))))
def f76.P:List Arg:=[qA17]
def f76.A:RAlt (Bool):=.one ⟨[qV12],[none]⟩ sg_b
def f76.F (n:Nat) (v:Int × Int × Nat × List T):=f76 n v.1 v.2.1 v.2.2.1 v.2.2.2
def f76.O (n:Nat):Orc:=orcOf (E:=E) [f136.w,f137.w] [] n
theorem f76.ok:FnS 76 f76.P sg_iil f76.A f76.F:=fnS c76 f76.O
def f76.w:FnW E:=fnW 76 f76.P sg_iil f76.A f76.F f76.ok
def f23.l0 (n:Nat):Nat→Nat→List T→Nat→List T→Int→Int→Option ((Bool) ⊕ (Unit))
 | 0,_,_,_,_,_,_=>none
 | m+1,n1,l2,n3,l4,i5,i6 =>
   br (decide (i6<i5)) (
    gd ((decide ((0≤i6)∧(i6<(n3:Int))))&&(okAt [(CK.int .i64),(CK.int .i64),CK.lst] l4 (((Int.toNat i6) * 3)+0))) (
    let i7:=(iAt l4 (((Int.toNat i6) * 3)+0))
    let i8:=(iAt l4 ((((Int.toNat i6) * 3)+0)+1))
    let n9:=(nAt l4 (((((Int.toNat i6) * 3)+0)+1)+1))
    let l10:=(lAt l4 (((((Int.toNat i6) * 3)+0)+1)+1))
    bd (f76 n i7 i8 n9 l10) fun r11 =>
    let b12:=r11
    br (!b12) (
     some (Sum.inl false)) (
     f23.l0 n m n1 l2 n3 l4 i5 (IntKind.i64.wrap (i6+(1:Int)))))) (
    some (Sum.inr ()))
def f23:Nat→Nat→List T→Option (Bool)
 | 0,_,_=>none
 | n+1,n1,l2 =>
   br (decide ((n1:Int)>(8:Int))) (
    some false) (
    bd (f23.l0 n n n1 l2 n1 l2 (n1:Int) (0:Int)) fun r3 =>
    sm r3 (fun u4 =>
     let b5:=u4
     some b5) (fun u6 =>
     some true))
def f23.l0.P:AS:=⟨[(0,qS24),(8,qS24),(9,qS28),(10,qS28)],0⟩
def f23.l0.A:Alt ((Bool) ⊕ (Unit)):=.or (.one .ret ⟨[(2,qS29)],0⟩ sg_b) (.one (.exit 0) ⟨[(2,.dead)],0⟩ sg)
def f23.l0.F (n m:Nat) (v:Nat × List T × Nat × List T × Int × Int):=f23.l0 n m v.1 v.2.1 v.2.2.1 v.2.2.2.1 v.2.2.2.2.1 v.2.2.2.2.2
def f23.l0.W (n:Nat):LpW:=.of 64 f23.l0.P sg_llii f23.l0.A (f23.l0.F n n)
def f23.P:List Arg:=[qA18]
def f23.A:RAlt (Bool):=.one ⟨[qV12],[none]⟩ sg_b
def f23.F (n:Nat) (v:Nat × List T):=f23 n v.1 v.2
def f23.O (n:Nat):Orc:=orcOf (E:=E) [f76.w] [f23.l0.W n] n
theorem f23.l0.ok:∀ n,LpS 23 c23 0 n (f23.O n):=lpS f23.l0.P sg_llii f23.l0.A f23.l0.F
theorem f23.ok:FnS 23 f23.P sg_l f23.A f23.F:=fnS c23 f23.O [loopAt c23 0] (fun n=>(.cons (f23.l0.ok n) .nil))
def f23.w:FnW E:=fnW 23 f23.P sg_l f23.A f23.F f23.ok
def f143:Nat→Int→Option (Bool)
 | 0,_=>none
 | n+1,i1 =>
   bd (f67 n i1 (-2000:Int) (2000:Int)) fun r2 =>
   let b3:=r2
   some b3
def f143.P:List Arg:=[qA14]
def f143.A:RAlt (Bool):=.one ⟨[qV12],[none]⟩ sg_b
def f143.F (n:Nat) (v:Int):=f143 n v
def f143.O (n:Nat):Orc:=orcOf (E:=E) [f67.w] [] n
theorem f143.ok:FnS 143 f143.P sg_i f143.A f143.F:=fnS c143 f143.O
def f143.w:FnW E:=fnW 143 f143.P sg_i f143.A f143.F f143.ok
def f144:Nat→Nat→Option (Bool)
 | 0,_=>none
 | n+1,x1 =>
   br (fge .f32 x1 0) (
    some (fle .f32 x1 1065353216)) (
    some false)
def f144.P:List Arg:=[qA15]
def f144.A:RAlt (Bool):=.one ⟨[qV12],[none]⟩ sg_b
def f144.F (n:Nat) (v:Nat):=f144 n v
def f144.O (n:Nat):Orc:=orcOf (E:=E) [] [] n
theorem f144.ok:FnS 144 f144.P sg_f f144.A f144.F:=fnS c144 f144.O
def f144.w:FnW E:=fnW 144 f144.P sg_f f144.A f144.F f144.ok
def f101.l0 (n:Nat):Nat→Nat→List T→Nat→List T→Nat→List T→Int→Int→Option ((Bool) ⊕ (Nat × List T × Nat × List T))
 | 0,_,_,_,_,_,_,_,_=>none
 | m+1,n1,l2,n3,l4,n5,l6,i7,i8 =>
   br (decide (i8<i7)) (
    gd ((decide ((0≤i8)∧(i8<(n5:Int))))&&(okAt [CK.lst,(CK.int .i64),(CK.flt .f32),CK.bool,CK.bool] l6 (((Int.toNat i8) * 5)+0))) (
    let n9:=(nAt l6 (((Int.toNat i8) * 5)+0))
    let l10:=(lAt l6 (((Int.toNat i8) * 5)+0))
    let i11:=(iAt l6 ((((Int.toNat i8) * 5)+0)+1))
    let x12:=(fAt l6 (((((Int.toNat i8) * 5)+0)+1)+1))
    let b13:=(bAt l6 ((((((Int.toNat i8) * 5)+0)+1)+1)+1))
    let b14:=(bAt l6 (((((((Int.toNat i8) * 5)+0)+1)+1)+1)+1))
    bd (f23 n n9 l10) fun r15 =>
    let b16:=r15
    br (!b16) (
     some (Sum.inl false)) (
     bd (f143 n i11) fun r17 =>
     let b18:=r17
     br (!b18) (
      some (Sum.inl false)) (
      bd (f144 n x12) fun r19 =>
      let b20:=r19
      br (!b20) (
       some (Sum.inl false)) (
       f101.l0 n m n1 l2 n3 l4 n5 l6 i7 (IntKind.i64.wrap (i8+(1:Int)))))))) (
    some (Sum.inr (n1,l2,n3,l4)))
def f83:Nat→Int→Int→Option (Bool)
 | 0,_,_=>none
 | n+1,i1,i2 =>
   bd (f67 n i1 (0:Int) (IntKind.i64.wrap (i2 - (1:Int)))) fun r3 =>
   let b4:=r3
   some b4
def f83.P:List Arg:=[qA14,qA14]
def f83.A:RAlt (Bool):=.one ⟨[qV12],[none,none]⟩ sg_b
def f83.F (n:Nat) (v:Int × Int):=f83 n v.1 v.2
def f83.O (n:Nat):Orc:=orcOf (E:=E) [f67.w] [] n
theorem f83.ok:FnS 83 f83.P sg_ii f83.A f83.F:=fnS c83 f83.O
def f83.w:FnW E:=fnW 83 f83.P sg_ii f83.A f83.F f83.ok
def f81:Nat→Int→Option (Bool)
 | 0,_=>none
 | n+1,i1 =>
   bd (f67 n i1 (0:Int) (256:Int)) fun r2 =>
   let b3:=r2
   some b3
def f81.P:List Arg:=[qA14]
def f81.A:RAlt (Bool):=.one ⟨[qV12],[none]⟩ sg_b
def f81.F (n:Nat) (v:Int):=f81 n v
def f81.O (n:Nat):Orc:=orcOf (E:=E) [f67.w] [] n
theorem f81.ok:FnS 81 f81.P sg_i f81.A f81.F:=fnS c81 f81.O
def f81.w:FnW E:=fnW 81 f81.P sg_i f81.A f81.F f81.ok
def f66:Nat→Nat→List T→Option (Bool)
 | 0,_,_=>none
 | n+1,n1,l2 =>
   some (decide ((n1:Int)≤(256:Int)))
def f66.P:List Arg:=[qA16]
def f66.A:RAlt (Bool):=.one ⟨[qV12],[none]⟩ sg_b
def f66.F (n:Nat) (v:Nat × List T):=f66 n v.1 v.2
def f66.O (n:Nat):Orc:=orcOf (E:=E) [] [] n
theorem f66.ok:FnS 66 f66.P sg_l f66.A f66.F:=fnS c66 f66.O
def f66.w:FnW E:=fnW 66 f66.P sg_l f66.A f66.F f66.ok
def f101.l1 (n:Nat):Nat→Nat→List T→Nat→List T→Nat→List T→Int→Int→Option ((Bool) ⊕ (Unit))
 | 0,_,_,_,_,_,_,_,_=>none
 | m+1,n1,l2,n3,l4,n5,l6,i7,i8 =>
   br (decide (i8<i7)) (
    gd ((decide ((0≤i8)∧(i8<(n5:Int))))&&(okAt [(CK.int .i64),(CK.int .i64),CK.lst] l6 (((Int.toNat i8) * 3)+0))) (
    let i9:=(iAt l6 (((Int.toNat i8) * 3)+0))
    let i10:=(iAt l6 ((((Int.toNat i8) * 3)+0)+1))
    let n11:=(nAt l6 (((((Int.toNat i8) * 3)+0)+1)+1))
    let l12:=(lAt l6 (((((Int.toNat i8) * 3)+0)+1)+1))
    bd (f83 n i9 (n3:Int)) fun r13 =>
    let b14:=r13
    br (!b14) (
     some (Sum.inl false)) (
     bd (f81 n i10) fun r15 =>
     let b16:=r15
     br (!b16) (
      some (Sum.inl false)) (
      bd (f66 n n11 l12) fun r17 =>
      let b18:=r17
      br (!b18) (
       some (Sum.inl false)) (
       f101.l1 n m n1 l2 n3 l4 n5 l6 i7 (IntKind.i64.wrap (i8+(1:Int)))))))) (
    some (Sum.inr ()))
def f101:Nat→Nat→List T→Nat→List T→Option (Bool)
 | 0,_,_,_,_=>none
 | n+1,n1,l2,n3,l4 =>
   bd (f87 n (n3:Int)) fun r5 =>
   let i6:=r5
   bd (f89 n i6) fun r7 =>
   let b8:=r7
   br (!b8) (
    some false) (
    br (decide ((n1:Int)>(12:Int))) (
     some false) (
     bd (f101.l0 n n n1 l2 n3 l4 n3 l4 (n3:Int) (0:Int)) fun r9 =>
     sm r9 (fun u10 =>
      let b11:=u10
      some b11) (fun u12 =>
      let n13:=u12.1
      let l14:=u12.2.1
      let n15:=u12.2.2.1
      let l16:=u12.2.2.2
      bd (f101.l1 n n n13 l14 n15 l16 n13 l14 (n13:Int) (0:Int)) fun r17 =>
      sm r17 (fun u18 =>
       let b19:=u18
       some b19) (fun u20 =>
       some true))))
def sg_lllii:Sig (Nat × List T × Nat × List T × Nat × List T × Int × Int) where
 pk:=fun v=>[.lst v.1 v.2.1,.lst v.2.2.1 v.2.2.2.1,.lst v.2.2.2.2.1 v.2.2.2.2.2.1,.int v.2.2.2.2.2.2.1,.int v.2.2.2.2.2.2.2]
 up:=fun ls=>match ls with
  | [.lst a0 a1,.lst a2 a3,.lst a4 a5,.int a6,.int a7]=>some (a0,a1,a2,a3,a4,a5,a6,a7)
  | _=>none
 ok:=by intro _ _ h;split at h <;>cases h;rfl
def f101.l0.P:AS:=⟨[(1,.box [.sl .shr [.leaf,.leaf,.sl .shr [.leaf]],.sl .shr [.sl .shr [.leaf,.leaf,.sl .shr [.leaf]],.leaf,.leaf,.leaf,.leaf]] [.lst 0 [],.lst 0 []] [] 0),(20,qS23),(21,qS28),(22,qS28)],0⟩
def f101.l0.A:Alt ((Bool) ⊕ (Nat × List T × Nat × List T)):=.or (.one .ret ⟨[(1,.dead),(2,qS29),(69,.dead)],0⟩ sg_b) (.one (.exit 0) ⟨[(1,.box [.sl .shr [.leaf,.leaf,.sl .shr [.leaf]],.sl .shr [.sl .shr [.leaf,.leaf,.sl .shr [.leaf]],.leaf,.leaf,.leaf,.leaf]] [.lst 0 [],.lst 0 []] [] 0),(2,.dead),(69,.dead)],0⟩ sg_ll)
def f101.l0.F (n m:Nat) (v:Nat × List T × Nat × List T × Nat × List T × Int × Int):=f101.l0 n m v.1 v.2.1 v.2.2.1 v.2.2.2.1 v.2.2.2.2.1 v.2.2.2.2.2.1 v.2.2.2.2.2.2.1 v.2.2.2.2.2.2.2
def f101.l0.W (n:Nat):LpW:=.of 64 f101.l0.P sg_lllii f101.l0.A (f101.l0.F n n)
def f101.l1.P:AS:=⟨[(1,.box [.sl .shr [.leaf,.leaf,.sl .shr [.leaf]],.sl .shr [.sl .shr [.leaf,.leaf,.sl .shr [.leaf]],.leaf,.leaf,.leaf,.leaf]] [.lst 0 [],.lst 0 []] [] 0),(44,qS24),(45,qS28),(46,qS28)],0⟩
def f101.l1.A:Alt ((Bool) ⊕ (Unit)):=.or (.one .ret ⟨[(2,qS29)],0⟩ sg_b) (.one (.exit 2) ⟨[(2,.dead)],0⟩ sg)
def f101.l1.F (n m:Nat) (v:Nat × List T × Nat × List T × Nat × List T × Int × Int):=f101.l1 n m v.1 v.2.1 v.2.2.1 v.2.2.2.1 v.2.2.2.2.1 v.2.2.2.2.2.1 v.2.2.2.2.2.2.1 v.2.2.2.2.2.2.2
def f101.l1.W (n:Nat):LpW:=.of 160 f101.l1.P sg_lllii f101.l1.A (f101.l1.F n n)
def f101.P:List Arg:=[qA21]
def f101.A:RAlt (Bool):=.one ⟨[qV12],[none]⟩ sg_b
def f101.F (n:Nat) (v:Nat × List T × Nat × List T):=f101 n v.1 v.2.1 v.2.2.1 v.2.2.2
def f101.O (n:Nat):Orc:=orcOf (E:=E) [f87.w,f89.w,f23.w,f143.w,f144.w,f83.w,f81.w,f66.w] [f101.l0.W n,f101.l1.W n] n
theorem f101.l0.ok:∀ n,LpS 101 c101 0 n (f101.O n):=lpS f101.l0.P sg_lllii f101.l0.A f101.l0.F
theorem f101.l1.ok:∀ n,LpS 101 c101 1 n (f101.O n):=lpS f101.l1.P sg_lllii f101.l1.A f101.l1.F
theorem f101.ok:FnS 101 f101.P sg_ll f101.A f101.F:=fnS c101 f101.O [loopAt c101 0,loopAt c101 1] (fun n=>(.cons (f101.l0.ok n) (.cons (f101.l1.ok n) .nil)))
def f101.w:FnW E:=fnW 101 f101.P sg_ll f101.A f101.F f101.ok
def f84:Nat→Nat→List T→Option (Nat × List T)
 | 0,_,_=>none
 | n+1,n1,l2 =>
   gd (Nat.ble (0+n1) 2147483648) (
   some ((0+n1),((reps 0 [(T.flt .f32 0)])++l2)))
def f84.P:List Arg:=[qA16]
def f84.A:RAlt (Nat × List T):=.one ⟨[qV10],[none]⟩ sg_l
def f84.F (n:Nat) (v:Nat × List T):=f84 n v.1 v.2
def f84.O (n:Nat):Orc:=orcOf (E:=E) [] [] n
theorem f84.ok:FnS 84 f84.P sg_l f84.A f84.F:=fnS c84 f84.O
def f84.w:FnW E:=fnW 84 f84.P sg_l f84.A f84.F f84.ok
def f103.l0 (n:Nat):Nat→Nat→List T→Nat→List T→Nat→List T→Nat→List T→Nat→List T→Nat→List T→Nat→List T→Int→Int→Option (Nat × List T × Nat × List T × Nat × List T × Nat × List T × Nat × List T × Nat × List T)
 | 0,_,_,_,_,_,_,_,_,_,_,_,_,_,_,_,_=>none
 | m+1,n1,l2,n3,l4,n5,l6,n7,l8,n9,l10,n11,l12,n13,l14,i15,i16 =>
   br (decide (i16<i15)) (
    gd ((decide ((0≤i16)∧(i16<(n13:Int))))&&(okAt [(CK.int .i64),(CK.int .i64),CK.lst] l14 (((Int.toNat i16) * 3)+0))) (
    let i17:=(iAt l14 (((Int.toNat i16) * 3)+0))
    let i18:=(iAt l14 ((((Int.toNat i16) * 3)+0)+1))
    let n19:=(nAt l14 (((((Int.toNat i16) * 3)+0)+1)+1))
    let l20:=(lAt l14 (((((Int.toNat i16) * 3)+0)+1)+1))
    bd (f84 n n19 l20) fun r21 =>
    let n22:=r21.1
    let l23:=r21.2
    gd (Nat.ble (n9+1) 2147483648) (
    let n24:=(n9+1)
    let l25:=(l10++(setN (reps 1 [(T.int .i64 (0:Int)),(T.int .i64 (0:Int)),(T.lst 0 [])]) 0 [(T.int .i64 i17),(T.int .i64 i18),(T.lst n22 l23)]))
    f103.l0 n m n1 l2 n3 l4 n5 l6 n7 l8 n24 l25 n11 l12 n13 l14 i15 (IntKind.i64.wrap (i16+(1:Int)))))) (
    some (n1,l2,n3,l4,n5,l6,n7,l8,n9,l10,n11,l12))
termination_by structural x=>x
def f78.l0 (n:Nat):Nat→Nat→List T→Nat→List T→Nat→List T→Int→Int→Option (Nat × List T)
 | 0,_,_,_,_,_,_,_,_=>none
 | m+1,n1,l2,n3,l4,n5,l6,i7,i8 =>
   br (decide (i8<i7)) (
    gd ((decide ((0≤i8)∧(i8<(n5:Int))))&&(okAt [(CK.int .i64),(CK.int .i64),CK.lst] l6 (((Int.toNat i8) * 3)+0))) (
    let i9:=(iAt l6 (((Int.toNat i8) * 3)+0))
    let i10:=(iAt l6 ((((Int.toNat i8) * 3)+0)+1))
    let n11:=(nAt l6 (((((Int.toNat i8) * 3)+0)+1)+1))
    let l12:=(lAt l6 (((((Int.toNat i8) * 3)+0)+1)+1))
    bd (f84 n n11 l12) fun r13 =>
    let n14:=r13.1
    let l15:=r13.2
    gd (Nat.ble (n3+1) 2147483648) (
    let n16:=(n3+1)
    let l17:=(l4++(setN (reps 1 [(T.int .i64 (0:Int)),(T.int .i64 (0:Int)),(T.lst 0 [])]) 0 [(T.int .i64 i9),(T.int .i64 i10),(T.lst n14 l15)]))
    f78.l0 n m n1 l2 n16 l17 n5 l6 i7 (IntKind.i64.wrap (i8+(1:Int)))))) (
    some (n3,l4))
def f78:Nat→Nat→List T→Option (Nat × List T)
 | 0,_,_=>none
 | n+1,n1,l2 =>
   bd (f78.l0 n n n1 l2 0 [] n1 l2 (n1:Int) (0:Int)) fun r3 =>
   let n4:=r3.1
   let l5:=r3.2
   some (n4,l5)
def f78.l0.P:AS:=⟨[(0,qS24),(3,qS25),(6,qS24),(7,qS28),(8,qS28)],0⟩
def f78.l0.A:Alt (Nat × List T):=.one (.exit 0) ⟨[(3,qS25)],0⟩ sg_l
def f78.l0.F (n m:Nat) (v:Nat × List T × Nat × List T × Nat × List T × Int × Int):=f78.l0 n m v.1 v.2.1 v.2.2.1 v.2.2.2.1 v.2.2.2.2.1 v.2.2.2.2.2.1 v.2.2.2.2.2.2.1 v.2.2.2.2.2.2.2
def f78.l0.W (n:Nat):LpW:=.of 48 f78.l0.P sg_lllii f78.l0.A (f78.l0.F n n)
def f78.P:List Arg:=[qA18]
def f78.A:RAlt (Nat × List T):=.one ⟨[qV8],[none]⟩ sg_l
def f78.F (n:Nat) (v:Nat × List T):=f78 n v.1 v.2
def f78.O (n:Nat):Orc:=orcOf (E:=E) [f84.w] [f78.l0.W n] n
theorem f78.l0.ok:∀ n,LpS 78 c78 0 n (f78.O n):=lpS f78.l0.P sg_lllii f78.l0.A f78.l0.F
theorem f78.ok:FnS 78 f78.P sg_l f78.A f78.F:=fnS c78 f78.O [loopAt c78 0] (fun n=>(.cons (f78.l0.ok n) .nil))
def f78.w:FnW E:=fnW 78 f78.P sg_l f78.A f78.F f78.ok
def f103.l1 (n:Nat):Nat→Nat→List T→Nat→List T→Nat→List T→Nat→List T→Nat→List T→Nat→List T→Nat→List T→Int→Int→Option (Nat × List T × Nat × List T × Nat × List T × Nat × List T)
 | 0,_,_,_,_,_,_,_,_,_,_,_,_,_,_,_,_=>none
 | m+1,n1,l2,n3,l4,n5,l6,n7,l8,n9,l10,n11,l12,n13,l14,i15,i16 =>
   br (decide (i16<i15)) (
    gd ((decide ((0≤i16)∧(i16<(n13:Int))))&&(okAt [CK.lst,(CK.int .i64),(CK.flt .f32),CK.bool,CK.bool] l14 (((Int.toNat i16) * 5)+0))) (
    let n17:=(nAt l14 (((Int.toNat i16) * 5)+0))
    let l18:=(lAt l14 (((Int.toNat i16) * 5)+0))
    let i19:=(iAt l14 ((((Int.toNat i16) * 5)+0)+1))
    let x20:=(fAt l14 (((((Int.toNat i16) * 5)+0)+1)+1))
    let b21:=(bAt l14 ((((((Int.toNat i16) * 5)+0)+1)+1)+1))
    let b22:=(bAt l14 (((((((Int.toNat i16) * 5)+0)+1)+1)+1)+1))
    bd (f78 n n17 l18) fun r23 =>
    let n24:=r23.1
    let l25:=r23.2
    gd (Nat.ble (n11+1) 2147483648) (
    let n26:=(n11+1)
    let l27:=(l12++(setN (reps 1 [(T.lst 0 []),(T.int .i64 (0:Int)),(T.flt .f32 0),(T.bool false),(T.bool false)]) 0 [(T.lst n24 l25),(T.int .i64 i19),(T.flt .f32 x20),(T.bool b21),(T.bool b22)]))
    f103.l1 n m n1 l2 n3 l4 n5 l6 n7 l8 n9 l10 n26 l27 n13 l14 i15 (IntKind.i64.wrap (i16+(1:Int)))))) (
    some (n5,l6,n7,l8,n9,l10,n11,l12))
termination_by structural x=>x
def f103:Nat→Nat→List T→Nat→List T→Option (Nat × List T × Nat × List T)
 | 0,_,_,_,_=>none
 | n+1,n1,l2,n3,l4 =>
   bd (f103.l0 n n n1 l2 n3 l4 0 [] 0 [] 0 [] 0 [] n1 l2 (n1:Int) (0:Int)) fun r5 =>
   let n6:=r5.1
   let l7:=r5.2.1
   let n8:=r5.2.2.1
   let l9:=r5.2.2.2.1
   let n10:=r5.2.2.2.2.1
   let l11:=r5.2.2.2.2.2.1
   let n12:=r5.2.2.2.2.2.2.1
   let l13:=r5.2.2.2.2.2.2.2.1
   let n14:=r5.2.2.2.2.2.2.2.2.1
   let l15:=r5.2.2.2.2.2.2.2.2.2.1
   let n16:=r5.2.2.2.2.2.2.2.2.2.2.1
   let l17:=r5.2.2.2.2.2.2.2.2.2.2.2
   bd (f103.l1 n n n6 l7 n8 l9 n10 l11 n12 l13 n14 l15 n16 l17 n8 l9 (n8:Int) (0:Int)) fun r18 =>
   let n23:=r18.2.2.2.2.1
   let l24:=r18.2.2.2.2.2.1
   let n25:=r18.2.2.2.2.2.2.1
   let l26:=r18.2.2.2.2.2.2.2
   some (n23,l24,n25,l26)
def sg_lllllllii:Sig (Nat × List T × Nat × List T × Nat × List T × Nat × List T × Nat × List T × Nat × List T × Nat × List T × Int × Int) where
 pk:=fun v=>[.lst v.1 v.2.1,.lst v.2.2.1 v.2.2.2.1,.lst v.2.2.2.2.1 v.2.2.2.2.2.1,.lst v.2.2.2.2.2.2.1 v.2.2.2.2.2.2.2.1,.lst v.2.2.2.2.2.2.2.2.1 v.2.2.2.2.2.2.2.2.2.1,.lst v.2.2.2.2.2.2.2.2.2.2.1 v.2.2.2.2.2.2.2.2.2.2.2.1,.lst v.2.2.2.2.2.2.2.2.2.2.2.2.1 v.2.2.2.2.2.2.2.2.2.2.2.2.2.1,.int v.2.2.2.2.2.2.2.2.2.2.2.2.2.2.1,.int v.2.2.2.2.2.2.2.2.2.2.2.2.2.2.2]
 up:=fun ls=>match ls with
  | [.lst a0 a1,.lst a2 a3,.lst a4 a5,.lst a6 a7,.lst a8 a9,.lst a10 a11,.lst a12 a13,.int a14,.int a15]=>some (a0,a1,a2,a3,a4,a5,a6,a7,a8,a9,a10,a11,a12,a13,a14,a15)
  | _=>none
 ok:=by intro _ _ h;split at h <;>cases h;rfl
def f103.l0.P:AS:=⟨[(1,.box [.sl .shr [.leaf,.leaf,.sl .shr [.leaf]],.sl .shr [.sl .shr [.leaf,.leaf,.sl .shr [.leaf]],.leaf,.leaf,.leaf,.leaf]] [.lst 0 [],.lst 0 []] [] 0),(2,.box [.sl .own [.leaf,.leaf,.sl .own [.leaf]],.sl .own [.sl .own [.leaf,.leaf,.sl .own [.leaf]],.leaf,.leaf,.leaf,.leaf]] [.lst 0 [],.lst 0 []] [] 0),(3,.box [.sl .own [.leaf,.leaf,.sl .own [.leaf]],.sl .own [.sl .own [.leaf,.leaf,.sl .own [.leaf]],.leaf,.leaf,.leaf,.leaf]] [.lst 0 [],.lst 0 []] [] 0),(9,qS24),(10,qS28),(11,qS28)],0⟩
def f103.l0.A:Alt (Nat × List T × Nat × List T × Nat × List T × Nat × List T × Nat × List T × Nat × List T):=.one (.exit 0) ⟨[(1,.box [.sl .shr [.leaf,.leaf,.sl .shr [.leaf]],.sl .shr [.sl .shr [.leaf,.leaf,.sl .shr [.leaf]],.leaf,.leaf,.leaf,.leaf]] [.lst 0 [],.lst 0 []] [] 0),(2,.box [.sl .own [.leaf,.leaf,.sl .own [.leaf]],.sl .own [.sl .own [.leaf,.leaf,.sl .own [.leaf]],.leaf,.leaf,.leaf,.leaf]] [.lst 0 [],.lst 0 []] [] 0),(3,.box [.sl .own [.leaf,.leaf,.sl .own [.leaf]],.sl .own [.sl .own [.leaf,.leaf,.sl .own [.leaf]],.leaf,.leaf,.leaf,.leaf]] [.lst 0 [],.lst 0 []] [] 0),(43,.dead)],0⟩ sg_llllll
def f103.l0.F (n m:Nat) (v:Nat × List T × Nat × List T × Nat × List T × Nat × List T × Nat × List T × Nat × List T × Nat × List T × Int × Int):=f103.l0 n m v.1 v.2.1 v.2.2.1 v.2.2.2.1 v.2.2.2.2.1 v.2.2.2.2.2.1 v.2.2.2.2.2.2.1 v.2.2.2.2.2.2.2.1 v.2.2.2.2.2.2.2.2.1 v.2.2.2.2.2.2.2.2.2.1 v.2.2.2.2.2.2.2.2.2.2.1 v.2.2.2.2.2.2.2.2.2.2.2.1 v.2.2.2.2.2.2.2.2.2.2.2.2.1 v.2.2.2.2.2.2.2.2.2.2.2.2.2.1 v.2.2.2.2.2.2.2.2.2.2.2.2.2.2.1 v.2.2.2.2.2.2.2.2.2.2.2.2.2.2.2
def f103.l0.W (n:Nat):LpW:=.of 48 f103.l0.P sg_lllllllii f103.l0.A (f103.l0.F n n)
def f103.l1.P:AS:=⟨[(1,.box [.sl .shr [.leaf,.leaf,.sl .shr [.leaf]],.sl .shr [.sl .shr [.leaf,.leaf,.sl .shr [.leaf]],.leaf,.leaf,.leaf,.leaf]] [.lst 0 [],.lst 0 []] [] 0),(2,.box [.sl .own [.leaf,.leaf,.sl .own [.leaf]],.sl .own [.sl .own [.leaf,.leaf,.sl .own [.leaf]],.leaf,.leaf,.leaf,.leaf]] [.lst 0 [],.lst 0 []] [] 0),(3,.box [.sl .own [.leaf,.leaf,.sl .own [.leaf]],.sl .own [.sl .own [.leaf,.leaf,.sl .own [.leaf]],.leaf,.leaf,.leaf,.leaf]] [.lst 0 [],.lst 0 []] [] 0),(27,qS23),(28,qS28),(29,qS28)],0⟩
def f103.l1.A:Alt (Nat × List T × Nat × List T × Nat × List T × Nat × List T):=.one (.exit 2) ⟨[(2,.box [.sl .own [.leaf,.leaf,.sl .own [.leaf]],.sl .own [.sl .own [.leaf,.leaf,.sl .own [.leaf]],.leaf,.leaf,.leaf,.leaf]] [.lst 0 [],.lst 0 []] [] 0),(3,.box [.sl .own [.leaf,.leaf,.sl .own [.leaf]],.sl .own [.sl .own [.leaf,.leaf,.sl .own [.leaf]],.leaf,.leaf,.leaf,.leaf]] [.lst 0 [],.lst 0 []] [] 0)],0⟩ sg_llll
def f103.l1.F (n m:Nat) (v:Nat × List T × Nat × List T × Nat × List T × Nat × List T × Nat × List T × Nat × List T × Nat × List T × Int × Int):=f103.l1 n m v.1 v.2.1 v.2.2.1 v.2.2.2.1 v.2.2.2.2.1 v.2.2.2.2.2.1 v.2.2.2.2.2.2.1 v.2.2.2.2.2.2.2.1 v.2.2.2.2.2.2.2.2.1 v.2.2.2.2.2.2.2.2.2.1 v.2.2.2.2.2.2.2.2.2.2.1 v.2.2.2.2.2.2.2.2.2.2.2.1 v.2.2.2.2.2.2.2.2.2.2.2.2.1 v.2.2.2.2.2.2.2.2.2.2.2.2.2.1 v.2.2.2.2.2.2.2.2.2.2.2.2.2.2.1 v.2.2.2.2.2.2.2.2.2.2.2.2.2.2.2
def f103.l1.W (n:Nat):LpW:=.of 144 f103.l1.P sg_lllllllii f103.l1.A (f103.l1.F n n)
def f103.P:List Arg:=[qA21]
def f103.A:RAlt (Nat × List T × Nat × List T):=.one ⟨[qV1],[none]⟩ sg_ll
def f103.F (n:Nat) (v:Nat × List T × Nat × List T):=f103 n v.1 v.2.1 v.2.2.1 v.2.2.2
def f103.O (n:Nat):Orc:=orcOf (E:=E) [f84.w,f78.w] [f103.l0.W n,f103.l1.W n] n
theorem f103.l0.ok:∀ n,LpS 103 c103 0 n (f103.O n):=lpS f103.l0.P sg_lllllllii f103.l0.A f103.l0.F
theorem f103.l1.ok:∀ n,LpS 103 c103 1 n (f103.O n):=lpS f103.l1.P sg_lllllllii f103.l1.A f103.l1.F
theorem f103.ok:FnS 103 f103.P sg_ll f103.A f103.F:=fnS c103 f103.O [loopAt c103 0,loopAt c103 1] (fun n=>(.cons (f103.l0.ok n) (.cons (f103.l1.ok n) .nil)))
def f103.w:FnW E:=fnW 103 f103.P sg_ll f103.A f103.F f103.ok
def f102:Nat→Int→Int→Nat→List T→Option (Int)
 | 0,_,_,_,_=>none
 | n+1,i1,i2,n3,l4 =>
   bd (f87 n (n3:Int)) fun r5 =>
   let i6:=r5
   some (IntKind.i64.wrap (i2+i6))
def f102.P:List Arg:=[qA17]
def f102.A:RAlt (Int):=.one ⟨[qV11],[none]⟩ sg_i
def f102.F (n:Nat) (v:Int × Int × Nat × List T):=f102 n v.1 v.2.1 v.2.2.1 v.2.2.2
def f102.O (n:Nat):Orc:=orcOf (E:=E) [f87.w] [] n
theorem f102.ok:FnS 102 f102.P sg_iil f102.A f102.F:=fnS c102 f102.O
def f102.w:FnW E:=fnW 102 f102.P sg_iil f102.A f102.F f102.ok
def f53.l0b (n:Nat):Nat→Int→Nat→List T→Nat→List T→Nat→List T→Nat→List T→Int→Int→Nat→List T→Option (Nat × List T × Nat × List T × Nat × List T × Nat × List T)
 | 0,_,_,_,_,_,_,_,_,_,_,_,_,_=>none
 | m+1,i1,n2,l3,n4,l5,n6,l7,n8,l9,i10,i11,n12,l13 =>
   br (decide (i1>(0:Int))) (
    bd (f102 n i10 i11 n12 l13) fun r14 =>
    let i15:=r14
    bd (f84 n n12 l13) fun r16 =>
    let n17:=r16.1
    let l18:=r16.2
    gd (Nat.ble (n6+1) 2147483648) (
    let n19:=(n6+1)
    let l20:=(l7++(setN (reps 1 [(T.int .i64 (0:Int)),(T.int .i64 (0:Int)),(T.lst 0 [])]) 0 [(T.int .i64 i10),(T.int .i64 i15),(T.lst n17 l18)]))
    f53.l0b n m (IntKind.i64.wrap (i1 - (1:Int))) n2 l3 n4 l5 n19 l20 n8 l9 i10 i15 n17 l18)) (
    some (n2,l3,n4,l5,n6,l7,n8,l9))
termination_by structural x=>x
def f53.l0 (n:Nat):Nat→Int→Nat→List T→Nat→List T→Nat→List T→Nat→List T→Int→Int→Nat→List T→Option (Nat × List T × Nat × List T × Nat × List T × Nat × List T)
 | 0,_,_,_,_,_,_,_,_,_,_,_,_,_=>none
 | m+1,i1,n2,l3,n4,l5,n6,l7,n8,l9,i10,i11,n12,l13 =>
   br (decide (i1>(0:Int))) (
    bd (f102 n i10 i11 n12 l13) fun r14 =>
    let i15:=r14
    bd (f84 n n12 l13) fun r16 =>
    let n17:=r16.1
    let l18:=r16.2
    gd (Nat.ble (n6+1) 2147483648) (
    let n19:=(n6+1)
    let l20:=(l7++(setN (reps 1 [(T.int .i64 (0:Int)),(T.int .i64 (0:Int)),(T.lst 0 [])]) 0 [(T.int .i64 i10),(T.int .i64 i15),(T.lst n17 l18)]))
    f53.l0b n m (IntKind.i64.wrap (i1 - (1:Int))) n2 l3 n4 l5 n19 l20 n8 l9 i10 i15 n17 l18)) (
    some (n2,l3,n4,l5,n6,l7,n8,l9))
def f104:Nat→Nat→List T→Nat→List T→Option ((Nat × List T × Nat × List T × Bool × Nat × List T × Nat × List T) ⊕ (Nat × List T × Nat × List T × Bool × Nat × List T × Nat × List T))
 | 0,_,_,_,_=>none
 | n+1,n1,l2,n3,l4 =>
   bd (f101 n n1 l2 n3 l4) fun r5 =>
   let b6:=r5
   br (!b6) (
    some (Sum.inl (0,[],0,[],false,n1,l2,n3,l4))) (
    some (Sum.inr (n1,l2,n3,l4,true,n1,l2,n3,l4)))
def sg_llbll:Sig (Nat × List T × Nat × List T × Bool × Nat × List T × Nat × List T) where
 pk:=fun v=>[.lst v.1 v.2.1,.lst v.2.2.1 v.2.2.2.1,.bool v.2.2.2.2.1,.lst v.2.2.2.2.2.1 v.2.2.2.2.2.2.1,.lst v.2.2.2.2.2.2.2.1 v.2.2.2.2.2.2.2.2]
 up:=fun ls=>match ls with
  | [.lst a0 a1,.lst a2 a3,.bool a4,.lst a5 a6,.lst a7 a8]=>some (a0,a1,a2,a3,a4,a5,a6,a7,a8)
  | _=>none
 ok:=by intro _ _ h;split at h <;>cases h;rfl
def f104.P:List Arg:=[⟨.io,qV1⟩]
def f104.A:RAlt ((Nat × List T × Nat × List T × Bool × Nat × List T × Nat × List T) ⊕ (Nat × List T × Nat × List T × Bool × Nat × List T × Nat × List T)):=.or (.one ⟨[qV1,qV12],[some qV1]⟩ sg_llbll) (.one ⟨[qV1,qV12],[some ⟨true,[.dead,.dead],[.lst 0 [],.lst 0 []]⟩]⟩ sg_llbll)
def f104.F (n:Nat) (v:Nat × List T × Nat × List T):=f104 n v.1 v.2.1 v.2.2.1 v.2.2.2
def f104.O (n:Nat):Orc:=orcOf (E:=E) [f101.w] [] n
theorem f104.ok:FnS 104 f104.P sg_ll f104.A f104.F:=fnS c104 f104.O
def f104.w:FnW E:=fnW 104 f104.P sg_ll f104.A f104.F f104.ok
def f53:Nat→Nat→List T→Nat→List T→Int→Int→Option (Nat × List T × Nat × List T × Bool)
 | 0,_,_,_,_,_,_=>none
 | n+1,n1,l2,n3,l4,i5,i6 =>
   bd (f101 n n1 l2 n3 l4) fun r7 =>
   let b8:=r7
   br (!b8) (
    some (0,[],0,[],false)) (
    bd (f83 n i5 (n1:Int)) fun r9 =>
    let b10:=r9
    br (!b10) (
     some (0,[],0,[],false)) (
     bd (f67 n i6 (1:Int) (12:Int)) fun r11 =>
     let b12:=r11
     br (!b12) (
      some (0,[],0,[],false)) (
      gd ((decide ((0≤i5)∧(i5<(n1:Int))))&&(okAt [(CK.int .i64),(CK.int .i64),CK.lst] l2 (((Int.toNat i5) * 3)+0))) (
      br ((((nAt l2 (((((Int.toNat i5) * 3)+0)+1)+1)):Nat):Int)==(0:Int)) (
       some (0,[],0,[],false)) (
       bd (f103 n n1 l2 n3 l4) fun r13 =>
       let n14:=r13.1
       let l15:=r13.2.1
       let n16:=r13.2.2.1
       let l17:=r13.2.2.2
       gd ((decide ((0≤i5)∧(i5<(n1:Int))))&&(okAt [(CK.int .i64),(CK.int .i64),CK.lst] l2 (((Int.toNat i5) * 3)+0))) (
       bd (f53.l0 n n i6 0 [] 0 [] n14 l15 n16 l17 (iAt l2 (((Int.toNat i5) * 3)+0)) (iAt l2 ((((Int.toNat i5) * 3)+0)+1)) (nAt l2 (((((Int.toNat i5) * 3)+0)+1)+1)) (lAt l2 (((((Int.toNat i5) * 3)+0)+1)+1))) fun r18 =>
       let n23:=r18.2.2.2.2.1
       let l24:=r18.2.2.2.2.2.1
       let n25:=r18.2.2.2.2.2.2.1
       let l26:=r18.2.2.2.2.2.2.2
       bd (f104 n n23 l24 n25 l26) fun r27 =>
       sm r27 (fun u28 =>
        let n29:=u28.1
        let l30:=u28.2.1
        let n31:=u28.2.2.1
        let l32:=u28.2.2.2.1
        let b33:=u28.2.2.2.2.1
        let n34:=u28.2.2.2.2.2.1
        let l35:=u28.2.2.2.2.2.2.1
        let n36:=u28.2.2.2.2.2.2.2.1
        let l37:=u28.2.2.2.2.2.2.2.2
        some (n29,l30,n31,l32,b33)) (fun u38 =>
        let n39:=u38.1
        let l40:=u38.2.1
        let n41:=u38.2.2.1
        let l42:=u38.2.2.2.1
        let b43:=u38.2.2.2.2.1
        let n44:=u38.2.2.2.2.2.1
        let l45:=u38.2.2.2.2.2.2.1
        let n46:=u38.2.2.2.2.2.2.2.1
        let l47:=u38.2.2.2.2.2.2.2.2
        some (n39,l40,n41,l42,b43))))))))
def sg_illlliil:Sig (Int × Nat × List T × Nat × List T × Nat × List T × Nat × List T × Int × Int × Nat × List T) where
 pk:=fun v=>[.int v.1,.lst v.2.1 v.2.2.1,.lst v.2.2.2.1 v.2.2.2.2.1,.lst v.2.2.2.2.2.1 v.2.2.2.2.2.2.1,.lst v.2.2.2.2.2.2.2.1 v.2.2.2.2.2.2.2.2.1,.int v.2.2.2.2.2.2.2.2.2.1,.int v.2.2.2.2.2.2.2.2.2.2.1,.lst v.2.2.2.2.2.2.2.2.2.2.2.1 v.2.2.2.2.2.2.2.2.2.2.2.2]
 up:=fun ls=>match ls with
  | [.int a0,.lst a1 a2,.lst a3 a4,.lst a5 a6,.lst a7 a8,.int a9,.int a10,.lst a11 a12]=>some (a0,a1,a2,a3,a4,a5,a6,a7,a8,a9,a10,a11,a12)
  | _=>none
 ok:=by intro _ _ h;split at h <;>cases h;rfl
def f53.l0b.P:AS:=⟨[(2,qS28),(6,.box [.sl .own [.leaf,.leaf,.sl .own [.leaf]],.sl .own [.sl .own [.leaf,.leaf,.sl .own [.leaf]],.leaf,.leaf,.leaf,.leaf]] [.lst 0 [],.lst 0 []] [] 0),(8,.box [.sl .own [.leaf,.leaf,.sl .own [.leaf]],.sl .own [.sl .own [.leaf,.leaf,.sl .own [.leaf]],.leaf,.leaf,.leaf,.leaf]] [.lst 0 [],.lst 0 []] [] 0),(9,.box [.leaf,.leaf,.sl (.lent 0) [.leaf]] [.int .i64 0,.int .i64 0,.lst 0 []] [] 0)],0⟩
def f53.l0b.A:Alt (Nat × List T × Nat × List T × Nat × List T × Nat × List T):=.one (.exit 0) ⟨[(6,.box [.sl .own [.leaf,.leaf,.sl .own [.leaf]],.sl .own [.sl .own [.leaf,.leaf,.sl .own [.leaf]],.leaf,.leaf,.leaf,.leaf]] [.lst 0 [],.lst 0 []] [] 0),(8,.box [.sl .own [.leaf,.leaf,.sl .own [.leaf]],.sl .own [.sl .own [.leaf,.leaf,.sl .own [.leaf]],.leaf,.leaf,.leaf,.leaf]] [.lst 0 [],.lst 0 []] [] 0)],0⟩ sg_llll
def f53.l0b.F (n m:Nat) (v:Int × Nat × List T × Nat × List T × Nat × List T × Nat × List T × Int × Int × Nat × List T):=f53.l0b n m v.1 v.2.1 v.2.2.1 v.2.2.2.1 v.2.2.2.2.1 v.2.2.2.2.2.1 v.2.2.2.2.2.2.1 v.2.2.2.2.2.2.2.1 v.2.2.2.2.2.2.2.2.1 v.2.2.2.2.2.2.2.2.2.1 v.2.2.2.2.2.2.2.2.2.2.1 v.2.2.2.2.2.2.2.2.2.2.2.1 v.2.2.2.2.2.2.2.2.2.2.2.2
def f53.l0.P:AS:=⟨[(2,qS28),(6,.box [.sl .own [.leaf,.leaf,.sl .own [.leaf]],.sl .own [.sl .own [.leaf,.leaf,.sl .own [.leaf]],.leaf,.leaf,.leaf,.leaf]] [.lst 0 [],.lst 0 []] [] 0),(8,.box [.sl .own [.leaf,.leaf,.sl .own [.leaf]],.sl .own [.sl .own [.leaf,.leaf,.sl .own [.leaf]],.leaf,.leaf,.leaf,.leaf]] [.lst 0 [],.lst 0 []] [] 0),(9,.box [.leaf,.leaf,.sl .shr [.leaf]] [.int .i64 0,.int .i64 0,.lst 0 []] [] 0)],0⟩
def f53.l0.A:Alt (Nat × List T × Nat × List T × Nat × List T × Nat × List T):=.one (.exit 0) ⟨[(6,.box [.sl .own [.leaf,.leaf,.sl .own [.leaf]],.sl .own [.sl .own [.leaf,.leaf,.sl .own [.leaf]],.leaf,.leaf,.leaf,.leaf]] [.lst 0 [],.lst 0 []] [] 0),(8,.box [.sl .own [.leaf,.leaf,.sl .own [.leaf]],.sl .own [.sl .own [.leaf,.leaf,.sl .own [.leaf]],.leaf,.leaf,.leaf,.leaf]] [.lst 0 [],.lst 0 []] [] 0)],0⟩ sg_llll
def f53.l0.F (n m:Nat) (v:Int × Nat × List T × Nat × List T × Nat × List T × Nat × List T × Int × Int × Nat × List T):=f53.l0 n m v.1 v.2.1 v.2.2.1 v.2.2.2.1 v.2.2.2.2.1 v.2.2.2.2.2.1 v.2.2.2.2.2.2.1 v.2.2.2.2.2.2.2.1 v.2.2.2.2.2.2.2.2.1 v.2.2.2.2.2.2.2.2.2.1 v.2.2.2.2.2.2.2.2.2.2.1 v.2.2.2.2.2.2.2.2.2.2.2.1 v.2.2.2.2.2.2.2.2.2.2.2.2
def f53.l0.W (n:Nat):LpW:=.of2 80 f53.l0.P sg_illlliil f53.l0b.P sg_illlliil f53.l0.A (f53.l0.F n n) (f53.l0b.F n n)
def f53.P:List Arg:=[qA21,qA14,qA14]
def f53.A:RAlt (Nat × List T × Nat × List T × Bool):=.one ⟨[qV1,qV12],[none,none,none]⟩ sg_llb
def f53.F (n:Nat) (v:Nat × List T × Nat × List T × Int × Int):=f53 n v.1 v.2.1 v.2.2.1 v.2.2.2.1 v.2.2.2.2.1 v.2.2.2.2.2
def f53.O (n:Nat):Orc:=orcOf (E:=E) [f67.w,f83.w,f101.w,f84.w,f103.w,f102.w,f104.w] [f53.l0.W n] n
theorem f53.l0.ok (n:Nat):LpOk (f53.O n) E (evalFn E n) n (keepAt 53) (.loop (loopAt c53 0)) :=
 lp_pure2 f53.l0.P sg_illlliil f53.l0b.P sg_illlliil f53.l0.A (f53.l0.F n) (f53.l0b.F n) (orcOf_cf _ _ n) (lpOk_of (bs:=[]) (by kernel_rfl) .nil) (fun _=>rfl) (fun _=>rfl) (fun _ _=>by kernel_rfl) (fun _ _=>by kernel_rfl) (fun _ _ _=>by kernel_rfl)
theorem f53.ok:FnS 53 f53.P sg_llii f53.A f53.F:=fnS c53 f53.O [loopAt c53 0] (fun n=>(.cons (f53.l0.ok n) .nil))
def f53.w:FnW E:=fnW 53 f53.P sg_llii f53.A f53.F f53.ok
def f185:Nat→Nat→Nat→Option (Bool)
 | 0,_,_=>none
 | n+1,x1,x2 =>
   br (fne .f64 x1 x1) (
    br (fne .f64 x1 x1) (
     some (fne .f64 x2 x2)) (
     some false)) (
    br (fne .f64 x2 x2) (
     br (fne .f64 x1 x1) (
      some (fne .f64 x2 x2)) (
      some false)) (
     br (feq .f64 x1 0) (
      br (feq .f64 x2 0) (
       some ((fgt .f64 (fdiv .f64 4607182418800017408 x1) 0)==(fgt .f64 (fdiv .f64 4607182418800017408 x2) 0))) (
       some (feq .f64 x1 x2))) (
      some (feq .f64 x1 x2))))
def sg_ff:Sig (Nat × Nat) where
 pk:=fun v=>[.flt v.1,.flt v.2]
 up:=fun ls=>match ls with
  | [.flt a0,.flt a1]=>some (a0,a1)
  | _=>none
 ok:=by intro _ _ h;split at h <;>cases h;rfl
def f185.P:List Arg:=[⟨.val,⟨false,[.leaf],[.flt .f64 0]⟩⟩,⟨.val,⟨false,[.leaf],[.flt .f64 0]⟩⟩]
def f185.A:RAlt (Bool):=.one ⟨[qV12],[none,none]⟩ sg_b
def f185.F (n:Nat) (v:Nat × Nat):=f185 n v.1 v.2
def f185.O (n:Nat):Orc:=orcOf (E:=E) [] [] n
theorem f185.ok:FnS 185 f185.P sg_ff f185.A f185.F:=fnS c185 f185.O
def f185.w:FnW E:=fnW 185 f185.P sg_ff f185.A f185.F f185.ok
def f183.l0 (n:Nat):Nat→Nat→List T→Nat→List T→Int→Option ((Bool) ⊕ (Unit))
 | 0,_,_,_,_,_=>none
 | m+1,n1,l2,n3,l4,i5 =>
   br (decide (i5<(n1:Int))) (
    gd ((decide ((0≤i5)∧(i5<(n1:Int))))&&(okAt [(CK.flt .f32)] l2 (Int.toNat i5))) (
    bd ((fltToFlt .f32 (fAt l2 (Int.toNat i5)) .f64)) fun y6 =>
    gd ((decide ((0≤i5)∧(i5<(n3:Int))))&&(okAt [(CK.flt .f32)] l4 (Int.toNat i5))) (
    bd ((fltToFlt .f32 (fAt l4 (Int.toNat i5)) .f64)) fun y7 =>
    bd (f185 n y6 y7) fun r8 =>
    let b9:=r8
    br (!b9) (
     some (Sum.inl false)) (
     f183.l0 n m n1 l2 n3 l4 (IntKind.i64.wrap (i5+(1:Int))))))) (
    some (Sum.inr ()))
def f183:Nat→Nat→List T→Nat→List T→Option (Bool)
 | 0,_,_,_,_=>none
 | n+1,n1,l2,n3,l4 =>
   br ((n1:Int) != (n3:Int)) (
    some false) (
    bd (f183.l0 n n n1 l2 n3 l4 (0:Int)) fun r5 =>
    sm r5 (fun u6 =>
     let b7:=u6
     some b7) (fun u8 =>
     some true))
def f183.l0.P:AS:=⟨[(0,qS27),(1,qS27),(5,qS28)],0⟩
def f183.l0.A:Alt ((Bool) ⊕ (Unit)):=.or (.one .ret ⟨[(4,qS29)],0⟩ sg_b) (.one (.exit 0) ⟨[(4,.dead)],0⟩ sg)
def f183.l0.F (n m:Nat) (v:Nat × List T × Nat × List T × Int):=f183.l0 n m v.1 v.2.1 v.2.2.1 v.2.2.2.1 v.2.2.2.2
def f183.l0.W (n:Nat):LpW:=.of 64 f183.l0.P sg_lli f183.l0.A (f183.l0.F n n)
def f183.P:List Arg:=[qA16,qA16]
def f183.A:RAlt (Bool):=.one ⟨[qV12],[none,none]⟩ sg_b
def f183.F (n:Nat) (v:Nat × List T × Nat × List T):=f183 n v.1 v.2.1 v.2.2.1 v.2.2.2
def f183.O (n:Nat):Orc:=orcOf (E:=E) [f185.w] [f183.l0.W n] n
theorem f183.l0.ok:∀ n,LpS 183 c183 0 n (f183.O n):=lpS f183.l0.P sg_lli f183.l0.A f183.l0.F
theorem f183.ok:FnS 183 f183.P sg_ll f183.A f183.F:=fnS c183 f183.O [loopAt c183 0] (fun n=>(.cons (f183.l0.ok n) .nil))
def f183.w:FnW E:=fnW 183 f183.P sg_ll f183.A f183.F f183.ok
def f154:Nat→Int→Int→Nat→List T→Int→Int→Nat→List T→Option (Bool)
 | 0,_,_,_,_,_,_,_,_=>none
 | n+1,i1,i2,n3,l4,i5,i6,n7,l8 =>
   br (i1 != i5) (
    some false) (
    br (i2 != i6) (
     some false) (
     bd (f183 n n3 l4 n7 l8) fun r9 =>
     let b10:=r9
     br (!b10) (
      some false) (
      some true)))
def sg_iiliil:Sig (Int × Int × Nat × List T × Int × Int × Nat × List T) where
 pk:=fun v=>[.int v.1,.int v.2.1,.lst v.2.2.1 v.2.2.2.1,.int v.2.2.2.2.1,.int v.2.2.2.2.2.1,.lst v.2.2.2.2.2.2.1 v.2.2.2.2.2.2.2]
 up:=fun ls=>match ls with
  | [.int a0,.int a1,.lst a2 a3,.int a4,.int a5,.lst a6 a7]=>some (a0,a1,a2,a3,a4,a5,a6,a7)
  | _=>none
 ok:=by intro _ _ h;split at h <;>cases h;rfl
def f154.P:List Arg:=[qA17,qA17]
def f154.A:RAlt (Bool):=.one ⟨[qV12],[none,none]⟩ sg_b
def f154.F (n:Nat) (v:Int × Int × Nat × List T × Int × Int × Nat × List T):=f154 n v.1 v.2.1 v.2.2.1 v.2.2.2.1 v.2.2.2.2.1 v.2.2.2.2.2.1 v.2.2.2.2.2.2.1 v.2.2.2.2.2.2.2
def f154.O (n:Nat):Orc:=orcOf (E:=E) [f183.w] [] n
theorem f154.ok:FnS 154 f154.P sg_iiliil f154.A f154.F:=fnS c154 f154.O
def f154.w:FnW E:=fnW 154 f154.P sg_iiliil f154.A f154.F f154.ok
def f113.l0 (n:Nat):Nat→Nat→List T→Nat→List T→Int→Option ((Bool) ⊕ (Unit))
 | 0,_,_,_,_,_=>none
 | m+1,n1,l2,n3,l4,i5 =>
   br (decide (i5<(n1:Int))) (
    gd ((decide ((0≤i5)∧(i5<(n1:Int))))&&(okAt [(CK.int .i64),(CK.int .i64),CK.lst] l2 (((Int.toNat i5) * 3)+0))) (
    gd ((decide ((0≤i5)∧(i5<(n3:Int))))&&(okAt [(CK.int .i64),(CK.int .i64),CK.lst] l4 (((Int.toNat i5) * 3)+0))) (
    bd (f154 n (iAt l2 (((Int.toNat i5) * 3)+0)) (iAt l2 ((((Int.toNat i5) * 3)+0)+1)) (nAt l2 (((((Int.toNat i5) * 3)+0)+1)+1)) (lAt l2 (((((Int.toNat i5) * 3)+0)+1)+1)) (iAt l4 (((Int.toNat i5) * 3)+0)) (iAt l4 ((((Int.toNat i5) * 3)+0)+1)) (nAt l4 (((((Int.toNat i5) * 3)+0)+1)+1)) (lAt l4 (((((Int.toNat i5) * 3)+0)+1)+1))) fun r6 =>
    let b7:=r6
    br (!b7) (
     some (Sum.inl false)) (
     f113.l0 n m n1 l2 n3 l4 (IntKind.i64.wrap (i5+(1:Int))))))) (
    some (Sum.inr ()))
def f113:Nat→Nat→List T→Nat→List T→Option (Bool)
 | 0,_,_,_,_=>none
 | n+1,n1,l2,n3,l4 =>
   br ((n1:Int) != (n3:Int)) (
    some false) (
    bd (f113.l0 n n n1 l2 n3 l4 (0:Int)) fun r5 =>
    sm r5 (fun u6 =>
     let b7:=u6
     some b7) (fun u8 =>
     some true))
def f113.l0.P:AS:=⟨[(0,qS24),(1,qS24),(5,qS28)],0⟩
def f113.l0.A:Alt ((Bool) ⊕ (Unit)):=.or (.one .ret ⟨[(4,qS29)],0⟩ sg_b) (.one (.exit 0) ⟨[(4,.dead)],0⟩ sg)
def f113.l0.F (n m:Nat) (v:Nat × List T × Nat × List T × Int):=f113.l0 n m v.1 v.2.1 v.2.2.1 v.2.2.2.1 v.2.2.2.2
def f113.l0.W (n:Nat):LpW:=.of 64 f113.l0.P sg_lli f113.l0.A (f113.l0.F n n)
def f113.P:List Arg:=[qA18,qA18]
def f113.A:RAlt (Bool):=.one ⟨[qV12],[none,none]⟩ sg_b
def f113.F (n:Nat) (v:Nat × List T × Nat × List T):=f113 n v.1 v.2.1 v.2.2.1 v.2.2.2
def f113.O (n:Nat):Orc:=orcOf (E:=E) [f154.w] [f113.l0.W n] n
theorem f113.l0.ok:∀ n,LpS 113 c113 0 n (f113.O n):=lpS f113.l0.P sg_lli f113.l0.A f113.l0.F
theorem f113.ok:FnS 113 f113.P sg_ll f113.A f113.F:=fnS c113 f113.O [loopAt c113 0] (fun n=>(.cons (f113.l0.ok n) .nil))
def f113.w:FnW E:=fnW 113 f113.P sg_ll f113.A f113.F f113.ok
def f197:Nat→Int→Int→Nat→List T→Int→Int→Nat→List T→Option (Bool)
 | 0,_,_,_,_,_,_,_,_=>none
 | n+1,i1,i2,n3,l4,i5,i6,n7,l8 =>
   br (i1 != i5) (
    some false) (
    br (i2 != i6) (
     some false) (
     bd (f183 n n3 l4 n7 l8) fun r9 =>
     let b10:=r9
     br (!b10) (
      some false) (
      some true)))
def f197.P:List Arg:=[qA17,qA17]
def f197.A:RAlt (Bool):=.one ⟨[qV12],[none,none]⟩ sg_b
def f197.F (n:Nat) (v:Int × Int × Nat × List T × Int × Int × Nat × List T):=f197 n v.1 v.2.1 v.2.2.1 v.2.2.2.1 v.2.2.2.2.1 v.2.2.2.2.2.1 v.2.2.2.2.2.2.1 v.2.2.2.2.2.2.2
def f197.O (n:Nat):Orc:=orcOf (E:=E) [f183.w] [] n
theorem f197.ok:FnS 197 f197.P sg_iiliil f197.A f197.F:=fnS c197 f197.O
def f197.w:FnW E:=fnW 197 f197.P sg_iiliil f197.A f197.F f197.ok
def f184.l0 (n:Nat):Nat→Nat→List T→Nat→List T→Int→Option ((Bool) ⊕ (Unit))
 | 0,_,_,_,_,_=>none
 | m+1,n1,l2,n3,l4,i5 =>
   br (decide (i5<(n1:Int))) (
    gd ((decide ((0≤i5)∧(i5<(n1:Int))))&&(okAt [(CK.int .i64),(CK.int .i64),CK.lst] l2 (((Int.toNat i5) * 3)+0))) (
    gd ((decide ((0≤i5)∧(i5<(n3:Int))))&&(okAt [(CK.int .i64),(CK.int .i64),CK.lst] l4 (((Int.toNat i5) * 3)+0))) (
    bd (f197 n (iAt l2 (((Int.toNat i5) * 3)+0)) (iAt l2 ((((Int.toNat i5) * 3)+0)+1)) (nAt l2 (((((Int.toNat i5) * 3)+0)+1)+1)) (lAt l2 (((((Int.toNat i5) * 3)+0)+1)+1)) (iAt l4 (((Int.toNat i5) * 3)+0)) (iAt l4 ((((Int.toNat i5) * 3)+0)+1)) (nAt l4 (((((Int.toNat i5) * 3)+0)+1)+1)) (lAt l4 (((((Int.toNat i5) * 3)+0)+1)+1))) fun r6 =>
    let b7:=r6
    br (!b7) (
     some (Sum.inl false)) (
     f184.l0 n m n1 l2 n3 l4 (IntKind.i64.wrap (i5+(1:Int))))))) (
    some (Sum.inr ()))
def f184:Nat→Nat→List T→Nat→List T→Option (Bool)
 | 0,_,_,_,_=>none
 | n+1,n1,l2,n3,l4 =>
   br ((n1:Int) != (n3:Int)) (
    some false) (
    bd (f184.l0 n n n1 l2 n3 l4 (0:Int)) fun r5 =>
    sm r5 (fun u6 =>
     let b7:=u6
     some b7) (fun u8 =>
     some true))
def f184.l0.P:AS:=⟨[(0,qS24),(1,qS24),(5,qS28)],0⟩
def f184.l0.A:Alt ((Bool) ⊕ (Unit)):=.or (.one .ret ⟨[(4,qS29)],0⟩ sg_b) (.one (.exit 0) ⟨[(4,.dead)],0⟩ sg)
def f184.l0.F (n m:Nat) (v:Nat × List T × Nat × List T × Int):=f184.l0 n m v.1 v.2.1 v.2.2.1 v.2.2.2.1 v.2.2.2.2
def f184.l0.W (n:Nat):LpW:=.of 64 f184.l0.P sg_lli f184.l0.A (f184.l0.F n n)
def f184.P:List Arg:=[qA18,qA18]
def f184.A:RAlt (Bool):=.one ⟨[qV12],[none,none]⟩ sg_b
def f184.F (n:Nat) (v:Nat × List T × Nat × List T):=f184 n v.1 v.2.1 v.2.2.1 v.2.2.2
def f184.O (n:Nat):Orc:=orcOf (E:=E) [f197.w] [f184.l0.W n] n
theorem f184.l0.ok:∀ n,LpS 184 c184 0 n (f184.O n):=lpS f184.l0.P sg_lli f184.l0.A f184.l0.F
theorem f184.ok:FnS 184 f184.P sg_ll f184.A f184.F:=fnS c184 f184.O [loopAt c184 0] (fun n=>(.cons (f184.l0.ok n) .nil))
def f184.w:FnW E:=fnW 184 f184.P sg_ll f184.A f184.F f184.ok
def f155:Nat→Nat→List T→Int→Nat→Bool→Bool→Nat→List T→Int→Nat→Bool→Bool→Option (Bool)
 | 0,_,_,_,_,_,_,_,_,_,_,_,_=>none
 | n+1,n1,l2,i3,x4,b5,b6,n7,l8,i9,x10,b11,b12 =>
   bd (f184 n n1 l2 n7 l8) fun r13 =>
   let b14:=r13
   br (!b14) (
    some false) (
    br (i3 != i9) (
     some false) (
     bd ((fltToFlt .f32 x4 .f64)) fun y15 =>
     bd ((fltToFlt .f32 x10 .f64)) fun y16 =>
     bd (f185 n y15 y16) fun r17 =>
     let b18:=r17
     br (!b18) (
      some false) (
      br (!(b5==b11)) (
       some false) (
       br (!(b6==b12)) (
        some false) (
        some true)))))
def sg_lifbblifbb:Sig (Nat × List T × Int × Nat × Bool × Bool × Nat × List T × Int × Nat × Bool × Bool) where
 pk:=fun v=>[.lst v.1 v.2.1,.int v.2.2.1,.flt v.2.2.2.1,.bool v.2.2.2.2.1,.bool v.2.2.2.2.2.1,.lst v.2.2.2.2.2.2.1 v.2.2.2.2.2.2.2.1,.int v.2.2.2.2.2.2.2.2.1,.flt v.2.2.2.2.2.2.2.2.2.1,.bool v.2.2.2.2.2.2.2.2.2.2.1,.bool v.2.2.2.2.2.2.2.2.2.2.2]
 up:=fun ls=>match ls with
  | [.lst a0 a1,.int a2,.flt a3,.bool a4,.bool a5,.lst a6 a7,.int a8,.flt a9,.bool a10,.bool a11]=>some (a0,a1,a2,a3,a4,a5,a6,a7,a8,a9,a10,a11)
  | _=>none
 ok:=by intro _ _ h;split at h <;>cases h;rfl
def f155.P:List Arg:=[qA19,qA19]
def f155.A:RAlt (Bool):=.one ⟨[qV12],[none,none]⟩ sg_b
def f155.F (n:Nat) (v:Nat × List T × Int × Nat × Bool × Bool × Nat × List T × Int × Nat × Bool × Bool):=f155 n v.1 v.2.1 v.2.2.1 v.2.2.2.1 v.2.2.2.2.1 v.2.2.2.2.2.1 v.2.2.2.2.2.2.1 v.2.2.2.2.2.2.2.1 v.2.2.2.2.2.2.2.2.1 v.2.2.2.2.2.2.2.2.2.1 v.2.2.2.2.2.2.2.2.2.2.1 v.2.2.2.2.2.2.2.2.2.2.2
def f155.O (n:Nat):Orc:=orcOf (E:=E) [f185.w,f184.w] [] n
theorem f155.ok:FnS 155 f155.P sg_lifbblifbb f155.A f155.F:=fnS c155 f155.O
def f155.w:FnW E:=fnW 155 f155.P sg_lifbblifbb f155.A f155.F f155.ok
def f114.l0 (n:Nat):Nat→Nat→List T→Nat→List T→Int→Option ((Bool) ⊕ (Unit))
 | 0,_,_,_,_,_=>none
 | m+1,n1,l2,n3,l4,i5 =>
   br (decide (i5<(n1:Int))) (
    gd ((decide ((0≤i5)∧(i5<(n1:Int))))&&(okAt [CK.lst,(CK.int .i64),(CK.flt .f32),CK.bool,CK.bool] l2 (((Int.toNat i5) * 5)+0))) (
    gd ((decide ((0≤i5)∧(i5<(n3:Int))))&&(okAt [CK.lst,(CK.int .i64),(CK.flt .f32),CK.bool,CK.bool] l4 (((Int.toNat i5) * 5)+0))) (
    bd (f155 n (nAt l2 (((Int.toNat i5) * 5)+0)) (lAt l2 (((Int.toNat i5) * 5)+0)) (iAt l2 ((((Int.toNat i5) * 5)+0)+1)) (fAt l2 (((((Int.toNat i5) * 5)+0)+1)+1)) (bAt l2 ((((((Int.toNat i5) * 5)+0)+1)+1)+1)) (bAt l2 (((((((Int.toNat i5) * 5)+0)+1)+1)+1)+1)) (nAt l4 (((Int.toNat i5) * 5)+0)) (lAt l4 (((Int.toNat i5) * 5)+0)) (iAt l4 ((((Int.toNat i5) * 5)+0)+1)) (fAt l4 (((((Int.toNat i5) * 5)+0)+1)+1)) (bAt l4 ((((((Int.toNat i5) * 5)+0)+1)+1)+1)) (bAt l4 (((((((Int.toNat i5) * 5)+0)+1)+1)+1)+1))) fun r6 =>
    let b7:=r6
    br (!b7) (
     some (Sum.inl false)) (
     f114.l0 n m n1 l2 n3 l4 (IntKind.i64.wrap (i5+(1:Int))))))) (
    some (Sum.inr ()))
def f114:Nat→Nat→List T→Nat→List T→Option (Bool)
 | 0,_,_,_,_=>none
 | n+1,n1,l2,n3,l4 =>
   br ((n1:Int) != (n3:Int)) (
    some false) (
    bd (f114.l0 n n n1 l2 n3 l4 (0:Int)) fun r5 =>
    sm r5 (fun u6 =>
     let b7:=u6
     some b7) (fun u8 =>
     some true))
def f114.l0.P:AS:=⟨[(0,qS23),(1,qS23),(5,qS28)],0⟩
def f114.l0.A:Alt ((Bool) ⊕ (Unit)):=.or (.one .ret ⟨[(4,qS29)],0⟩ sg_b) (.one (.exit 0) ⟨[(4,.dead)],0⟩ sg)
def f114.l0.F (n m:Nat) (v:Nat × List T × Nat × List T × Int):=f114.l0 n m v.1 v.2.1 v.2.2.1 v.2.2.2.1 v.2.2.2.2
def f114.l0.W (n:Nat):LpW:=.of 64 f114.l0.P sg_lli f114.l0.A (f114.l0.F n n)
def f114.P:List Arg:=[qA20,qA20]
def f114.A:RAlt (Bool):=.one ⟨[qV12],[none,none]⟩ sg_b
def f114.F (n:Nat) (v:Nat × List T × Nat × List T):=f114 n v.1 v.2.1 v.2.2.1 v.2.2.2
def f114.O (n:Nat):Orc:=orcOf (E:=E) [f155.w] [f114.l0.W n] n
theorem f114.l0.ok:∀ n,LpS 114 c114 0 n (f114.O n):=lpS f114.l0.P sg_lli f114.l0.A f114.l0.F
theorem f114.ok:FnS 114 f114.P sg_ll f114.A f114.F:=fnS c114 f114.O [loopAt c114 0] (fun n=>(.cons (f114.l0.ok n) .nil))
def f114.w:FnW E:=fnW 114 f114.P sg_ll f114.A f114.F f114.ok
def f57:Nat→Nat→List T→Nat→List T→Nat→List T→Nat→List T→Option (Bool)
 | 0,_,_,_,_,_,_,_,_=>none
 | n+1,n1,l2,n3,l4,n5,l6,n7,l8 =>
   bd (f113 n n1 l2 n5 l6) fun r9 =>
   let b10:=r9
   br (!b10) (
    some false) (
    bd (f114 n n3 l4 n7 l8) fun r11 =>
    let b12:=r11
    br (!b12) (
     some false) (
     some true))
def f57.P:List Arg:=[qA21,qA21]
def f57.A:RAlt (Bool):=.one ⟨[qV12],[none,none]⟩ sg_b
def f57.F (n:Nat) (v:Nat × List T × Nat × List T × Nat × List T × Nat × List T):=f57 n v.1 v.2.1 v.2.2.1 v.2.2.2.1 v.2.2.2.2.1 v.2.2.2.2.2.1 v.2.2.2.2.2.2.1 v.2.2.2.2.2.2.2
def f57.O (n:Nat):Orc:=orcOf (E:=E) [f113.w,f114.w] [] n
theorem f57.ok:FnS 57 f57.P sg_llll f57.A f57.F:=fnS c57 f57.O
def f57.w:FnW E:=fnW 57 f57.P sg_llll f57.A f57.F f57.ok
def f156.l0 (n:Nat):Nat→Nat→List T→Int→Int→Option (Nat × List T × Int)
 | 0,_,_,_,_=>none
 | m+1,n1,l2,i3,i4 =>
   br (decide (i4<(n1:Int))) (
    gd (decide ((0≤i4)∧(i4<(n1:Int)))) (
    gd (Nat.ble ((Int.toNat i4)+1) (List.length l2)) (
    let l5:=(setN l2 (Int.toNat i4) [(T.flt .f32 (FloatKind.nearest .f32 i3))])
    let i6:=(IntKind.i64.wrap (i3+(1:Int)))
    f156.l0 n m n1 l5 i6 (IntKind.i64.wrap (i4+(1:Int)))))) (
    some (n1,l2,i3))
def f156:Nat→Nat→List T→Int→Option (Int × Nat × List T)
 | 0,_,_,_=>none
 | n+1,n1,l2,i3 =>
   bd (f156.l0 n n n1 l2 i3 (0:Int)) fun r4 =>
   let n5:=r4.1
   let l6:=r4.2.1
   let i7:=r4.2.2
   some (i7,n5,l6)
def sg_il:Sig (Int × Nat × List T) where
 pk:=fun v=>[.int v.1,.lst v.2.1 v.2.2]
 up:=fun ls=>match ls with
  | [.int a0,.lst a1 a2]=>some (a0,a1,a2)
  | _=>none
 ok:=by intro _ _ h;split at h <;>cases h;rfl
def f156.l0.P:AS:=⟨[(0,.val false [.sl .own [.leaf]] [.lst 0 []] [] 1),(1,qS28),(5,qS28)],0⟩
def f156.l0.A:Alt (Nat × List T × Int):=.one (.exit 0) ⟨[(0,.val false [.sl .own [.leaf]] [.lst 0 []] [] 1),(1,qS28)],0⟩ sg_li
def f156.l0.F (n m:Nat) (v:Nat × List T × Int × Int):=f156.l0 n m v.1 v.2.1 v.2.2.1 v.2.2.2
def f156.l0.W (n:Nat):LpW:=.of 32 f156.l0.P sg_lii f156.l0.A (f156.l0.F n n)
def f156.P:List Arg:=[⟨.io,qV10⟩,qA14]
def f156.A:RAlt (Int × Nat × List T):=.one ⟨[qV11],[some qV10,none]⟩ sg_il
def f156.F (n:Nat) (v:Nat × List T × Int):=f156 n v.1 v.2.1 v.2.2
def f156.O (n:Nat):Orc:=orcOf (E:=E) [] [f156.l0.W n] n
theorem f156.l0.ok:∀ n,LpS 156 c156 0 n (f156.O n):=lpS f156.l0.P sg_lii f156.l0.A f156.l0.F
theorem f156.ok:FnS 156 f156.P sg_li f156.A f156.F:=fnS c156 f156.O [loopAt c156 0] (fun n=>(.cons (f156.l0.ok n) .nil))
def f156.w:FnW E:=fnW 156 f156.P sg_li f156.A f156.F f156.ok
def f115.l0 (n:Nat):Nat→Nat→List T→Int→Int→Option (Nat × List T × Int)
 | 0,_,_,_,_=>none
 | m+1,n1,l2,i3,i4 =>
   br (decide (i4<(n1:Int))) (
    gd (decide ((0≤i4)∧(i4<(n1:Int)))) (
    gd (Nat.ble ((((Int.toNat i4) * 3)+0)+1) (List.length l2)) (
    let l5:=(setN l2 (((Int.toNat i4) * 3)+0) [(T.int .i64 i3)])
    let i6:=(IntKind.i64.wrap (i3+(1:Int)))
    gd (decide ((0≤i4)∧(i4<(n1:Int)))) (
    gd (Nat.ble ((((Int.toNat i4) * 3)+1)+1) (List.length l5)) (
    let l7:=(setN l5 (((Int.toNat i4) * 3)+1) [(T.int .i64 i6)])
    let i8:=(IntKind.i64.wrap (i6+(1:Int)))
    gd (decide ((0≤i4)∧(i4<(n1:Int)))) (
    gd (okAt [CK.lst] l7 (((Int.toNat i4) * 3)+2)) (
    gd ((okAt [CK.lst] l7 (((Int.toNat i4) * 3)+2))&&true) (
    gd ((okAt [CK.lst] l7 (((Int.toNat i4) * 3)+2))&&true) (
    bd (f156 n (nAt l7 (((Int.toNat i4) * 3)+2)) (lAt l7 (((Int.toNat i4) * 3)+2)) i8) fun r9 =>
    let i10:=r9.1
    let n11:=r9.2.1
    let l12:=r9.2.2
    let l13:=(setN l7 (((Int.toNat i4) * 3)+2) [(T.lst n11 l12)])
    f115.l0 n m n1 l13 i10 (IntKind.i64.wrap (i4+(1:Int)))))))))))) (
    some (n1,l2,i3))
def f115:Nat→Nat→List T→Int→Option (Int × Nat × List T)
 | 0,_,_,_=>none
 | n+1,n1,l2,i3 =>
   bd (f115.l0 n n n1 l2 i3 (0:Int)) fun r4 =>
   let n5:=r4.1
   let l6:=r4.2.1
   let i7:=r4.2.2
   some (i7,n5,l6)
def f115.l0.P:AS:=⟨[(0,qS26),(1,qS28),(5,qS28)],0⟩
def f115.l0.A:Alt (Nat × List T × Int):=.one (.exit 0) ⟨[(0,qS26),(1,qS28)],0⟩ sg_li
def f115.l0.F (n m:Nat) (v:Nat × List T × Int × Int):=f115.l0 n m v.1 v.2.1 v.2.2.1 v.2.2.2
def f115.l0.W (n:Nat):LpW:=.of 32 f115.l0.P sg_lii f115.l0.A (f115.l0.F n n)
def f115.P:List Arg:=[⟨.io,qV8⟩,qA14]
def f115.A:RAlt (Int × Nat × List T):=.one ⟨[qV11],[some qV8,none]⟩ sg_il
def f115.F (n:Nat) (v:Nat × List T × Int):=f115 n v.1 v.2.1 v.2.2
def f115.O (n:Nat):Orc:=orcOf (E:=E) [f156.w] [f115.l0.W n] n
theorem f115.l0.ok:∀ n,LpS 115 c115 0 n (f115.O n):=lpS f115.l0.P sg_lii f115.l0.A f115.l0.F
theorem f115.ok:FnS 115 f115.P sg_li f115.A f115.F:=fnS c115 f115.O [loopAt c115 0] (fun n=>(.cons (f115.l0.ok n) .nil))
def f115.w:FnW E:=fnW 115 f115.P sg_li f115.A f115.F f115.ok
def f157.l0 (n:Nat):Nat→Nat→List T→Int→Int→Option (Nat × List T × Int)
 | 0,_,_,_,_=>none
 | m+1,n1,l2,i3,i4 =>
   br (decide (i4<(n1:Int))) (
    gd (decide ((0≤i4)∧(i4<(n1:Int)))) (
    gd (Nat.ble ((((Int.toNat i4) * 3)+0)+1) (List.length l2)) (
    let l5:=(setN l2 (((Int.toNat i4) * 3)+0) [(T.int .i64 i3)])
    let i6:=(IntKind.i64.wrap (i3+(1:Int)))
    gd (decide ((0≤i4)∧(i4<(n1:Int)))) (
    gd (Nat.ble ((((Int.toNat i4) * 3)+1)+1) (List.length l5)) (
    let l7:=(setN l5 (((Int.toNat i4) * 3)+1) [(T.int .i64 i6)])
    let i8:=(IntKind.i64.wrap (i6+(1:Int)))
    gd (decide ((0≤i4)∧(i4<(n1:Int)))) (
    gd (okAt [CK.lst] l7 (((Int.toNat i4) * 3)+2)) (
    gd ((okAt [CK.lst] l7 (((Int.toNat i4) * 3)+2))&&true) (
    gd ((okAt [CK.lst] l7 (((Int.toNat i4) * 3)+2))&&true) (
    bd (f156 n (nAt l7 (((Int.toNat i4) * 3)+2)) (lAt l7 (((Int.toNat i4) * 3)+2)) i8) fun r9 =>
    let i10:=r9.1
    let n11:=r9.2.1
    let l12:=r9.2.2
    let l13:=(setN l7 (((Int.toNat i4) * 3)+2) [(T.lst n11 l12)])
    f157.l0 n m n1 l13 i10 (IntKind.i64.wrap (i4+(1:Int)))))))))))) (
    some (n1,l2,i3))
def f157:Nat→Nat→List T→Int→Option (Int × Nat × List T)
 | 0,_,_,_=>none
 | n+1,n1,l2,i3 =>
   bd (f157.l0 n n n1 l2 i3 (0:Int)) fun r4 =>
   let n5:=r4.1
   let l6:=r4.2.1
   let i7:=r4.2.2
   some (i7,n5,l6)
def f157.l0.P:AS:=⟨[(0,qS26),(1,qS28),(5,qS28)],0⟩
def f157.l0.A:Alt (Nat × List T × Int):=.one (.exit 0) ⟨[(0,qS26),(1,qS28)],0⟩ sg_li
def f157.l0.F (n m:Nat) (v:Nat × List T × Int × Int):=f157.l0 n m v.1 v.2.1 v.2.2.1 v.2.2.2
def f157.l0.W (n:Nat):LpW:=.of 32 f157.l0.P sg_lii f157.l0.A (f157.l0.F n n)
def f157.P:List Arg:=[⟨.io,qV8⟩,qA14]
def f157.A:RAlt (Int × Nat × List T):=.one ⟨[qV11],[some qV8,none]⟩ sg_il
def f157.F (n:Nat) (v:Nat × List T × Int):=f157 n v.1 v.2.1 v.2.2
def f157.O (n:Nat):Orc:=orcOf (E:=E) [f156.w] [f157.l0.W n] n
theorem f157.l0.ok:∀ n,LpS 157 c157 0 n (f157.O n):=lpS f157.l0.P sg_lii f157.l0.A f157.l0.F
theorem f157.ok:FnS 157 f157.P sg_li f157.A f157.F:=fnS c157 f157.O [loopAt c157 0] (fun n=>(.cons (f157.l0.ok n) .nil))
def f157.w:FnW E:=fnW 157 f157.P sg_li f157.A f157.F f157.ok
def f116.l0 (n:Nat):Nat→Nat→List T→Int→Int→Option (Nat × List T × Int)
 | 0,_,_,_,_=>none
 | m+1,n1,l2,i3,i4 =>
   br (decide (i4<(n1:Int))) (
    gd (decide ((0≤i4)∧(i4<(n1:Int)))) (
    gd (okAt [CK.lst] l2 (((Int.toNat i4) * 5)+0)) (
    gd ((okAt [CK.lst] l2 (((Int.toNat i4) * 5)+0))&&true) (
    gd ((okAt [CK.lst] l2 (((Int.toNat i4) * 5)+0))&&true) (
    bd (f157 n (nAt l2 (((Int.toNat i4) * 5)+0)) (lAt l2 (((Int.toNat i4) * 5)+0)) i3) fun r5 =>
    let i6:=r5.1
    let n7:=r5.2.1
    let l8:=r5.2.2
    let l9:=(setN l2 (((Int.toNat i4) * 5)+0) [(T.lst n7 l8)])
    gd (decide ((0≤i4)∧(i4<(n1:Int)))) (
    gd (Nat.ble ((((Int.toNat i4) * 5)+1)+1) (List.length l9)) (
    let l10:=(setN l9 (((Int.toNat i4) * 5)+1) [(T.int .i64 i6)])
    let i11:=(IntKind.i64.wrap (i6+(1:Int)))
    gd (decide ((0≤i4)∧(i4<(n1:Int)))) (
    gd (Nat.ble ((((Int.toNat i4) * 5)+2)+1) (List.length l10)) (
    let l12:=(setN l10 (((Int.toNat i4) * 5)+2) [(T.flt .f32 (FloatKind.nearest .f32 i11))])
    let i13:=(IntKind.i64.wrap (i11+(1:Int)))
    gd (decide ((0≤i4)∧(i4<(n1:Int)))) (
    gd (Nat.ble ((((Int.toNat i4) * 5)+3)+1) (List.length l12)) (
    let l14:=(setN l12 (((Int.toNat i4) * 5)+3) [(T.bool ((Int.tmod i13 (3:Int))==(0:Int)))])
    let i15:=(IntKind.i64.wrap (i13+(1:Int)))
    gd (decide ((0≤i4)∧(i4<(n1:Int)))) (
    gd (Nat.ble ((((Int.toNat i4) * 5)+4)+1) (List.length l14)) (
    let l16:=(setN l14 (((Int.toNat i4) * 5)+4) [(T.bool ((Int.tmod i15 (3:Int))==(0:Int)))])
    let i17:=(IntKind.i64.wrap (i15+(1:Int)))
    f116.l0 n m n1 l16 i17 (IntKind.i64.wrap (i4+(1:Int)))))))))))))))) (
    some (n1,l2,i3))
def f116:Nat→Nat→List T→Int→Option (Int × Nat × List T)
 | 0,_,_,_=>none
 | n+1,n1,l2,i3 =>
   bd (f116.l0 n n n1 l2 i3 (0:Int)) fun r4 =>
   let n5:=r4.1
   let l6:=r4.2.1
   let i7:=r4.2.2
   some (i7,n5,l6)
def f116.l0.P:AS:=⟨[(0,.val false [.sl .own [.sl .own [.leaf,.leaf,.sl .own [.leaf]],.leaf,.leaf,.leaf,.leaf]] [.lst 0 []] [] 1),(1,qS28),(5,qS28)],0⟩
def f116.l0.A:Alt (Nat × List T × Int):=.one (.exit 0) ⟨[(0,.val false [.sl .own [.sl .own [.leaf,.leaf,.sl .own [.leaf]],.leaf,.leaf,.leaf,.leaf]] [.lst 0 []] [] 1),(1,qS28)],0⟩ sg_li
def f116.l0.F (n m:Nat) (v:Nat × List T × Int × Int):=f116.l0 n m v.1 v.2.1 v.2.2.1 v.2.2.2
def f116.l0.W (n:Nat):LpW:=.of 32 f116.l0.P sg_lii f116.l0.A (f116.l0.F n n)
def f116.P:List Arg:=[⟨.io,qV4⟩,qA14]
def f116.A:RAlt (Int × Nat × List T):=.one ⟨[qV11],[some qV4,none]⟩ sg_il
def f116.F (n:Nat) (v:Nat × List T × Int):=f116 n v.1 v.2.1 v.2.2
def f116.O (n:Nat):Orc:=orcOf (E:=E) [f157.w] [f116.l0.W n] n
theorem f116.l0.ok:∀ n,LpS 116 c116 0 n (f116.O n):=lpS f116.l0.P sg_lii f116.l0.A f116.l0.F
theorem f116.ok:FnS 116 f116.P sg_li f116.A f116.F:=fnS c116 f116.O [loopAt c116 0] (fun n=>(.cons (f116.l0.ok n) .nil))
def f116.w:FnW E:=fnW 116 f116.P sg_li f116.A f116.F f116.ok
def f58:Nat→Nat→List T→Nat→List T→Int→Option (Int × Nat × List T × Nat × List T)
 | 0,_,_,_,_,_=>none
 | n+1,n1,l2,n3,l4,i5 =>
   bd (f115 n n1 l2 i5) fun r6 =>
   let i7:=r6.1
   let n8:=r6.2.1
   let l9:=r6.2.2
   bd (f116 n n3 l4 i7) fun r10 =>
   let i11:=r10.1
   let n12:=r10.2.1
   let l13:=r10.2.2
   some (i11,n8,l9,n12,l13)
def sg_ill:Sig (Int × Nat × List T × Nat × List T) where
 pk:=fun v=>[.int v.1,.lst v.2.1 v.2.2.1,.lst v.2.2.2.1 v.2.2.2.2]
 up:=fun ls=>match ls with
  | [.int a0,.lst a1 a2,.lst a3 a4]=>some (a0,a1,a2,a3,a4)
  | _=>none
 ok:=by intro _ _ h;split at h <;>cases h;rfl
def f58.P:List Arg:=[⟨.io,qV1⟩,qA14]
def f58.A:RAlt (Int × Nat × List T × Nat × List T):=.one ⟨[qV11],[some qV1,none]⟩ sg_ill
def f58.F (n:Nat) (v:Nat × List T × Nat × List T × Int):=f58 n v.1 v.2.1 v.2.2.1 v.2.2.2.1 v.2.2.2.2
def f58.O (n:Nat):Orc:=orcOf (E:=E) [f115.w,f116.w] [] n
theorem f58.ok:FnS 58 f58.P sg_lli f58.A f58.F:=fnS c58 f58.O
def f58.w:FnW E:=fnW 58 f58.P sg_lli f58.A f58.F f58.ok
def f158.l0 (n:Nat):Nat→Nat→List T→Int→Int→Option ((Int) ⊕ (Int))
 | 0,_,_,_,_=>none
 | m+1,n1,l2,i3,i4 =>
   br (decide (i4<(n1:Int))) (
    gd ((decide ((0≤i4)∧(i4<(n1:Int))))&&(okAt [(CK.flt .f32)] l2 (Int.toNat i4))) (
    br (fne .f32 (fAt l2 (Int.toNat i4)) (FloatKind.nearest .f32 i3)) (
     some (Sum.inl (-1:Int))) (
     let i5:=(IntKind.i64.wrap (i3+(1:Int)))
     f158.l0 n m n1 l2 i5 (IntKind.i64.wrap (i4+(1:Int)))))) (
    some (Sum.inr i3))
def f158:Nat→Nat→List T→Int→Option (Int)
 | 0,_,_,_=>none
 | n+1,n1,l2,i3 =>
   bd (f158.l0 n n n1 l2 i3 (0:Int)) fun r4 =>
   sm r4 (fun u5 =>
    let i6:=u5
    some i6) (fun u7 =>
    let i8:=u7
    some i8)
def f158.l0.P:AS:=⟨[(0,qS27),(1,qS28),(5,qS28)],0⟩
def f158.l0.A:Alt ((Int) ⊕ (Int)):=.or (.one .ret ⟨[(1,.dead),(4,qS28)],0⟩ sg_i) (.one (.exit 0) ⟨[(1,qS28),(4,.dead)],0⟩ sg_i)
def f158.l0.F (n m:Nat) (v:Nat × List T × Int × Int):=f158.l0 n m v.1 v.2.1 v.2.2.1 v.2.2.2
def f158.l0.W (n:Nat):LpW:=.of 32 f158.l0.P sg_lii f158.l0.A (f158.l0.F n n)
def f158.P:List Arg:=[qA16,qA14]
def f158.A:RAlt (Int):=.one ⟨[qV11],[none,none]⟩ sg_i
def f158.F (n:Nat) (v:Nat × List T × Int):=f158 n v.1 v.2.1 v.2.2
def f158.O (n:Nat):Orc:=orcOf (E:=E) [] [f158.l0.W n] n
theorem f158.l0.ok:∀ n,LpS 158 c158 0 n (f158.O n):=lpS f158.l0.P sg_lii f158.l0.A f158.l0.F
theorem f158.ok:FnS 158 f158.P sg_li f158.A f158.F:=fnS c158 f158.O [loopAt c158 0] (fun n=>(.cons (f158.l0.ok n) .nil))
def f158.w:FnW E:=fnW 158 f158.P sg_li f158.A f158.F f158.ok
def f117.l0 (n:Nat):Nat→Nat→List T→Int→Int→Option ((Int) ⊕ (Int))
 | 0,_,_,_,_=>none
 | m+1,n1,l2,i3,i4 =>
   br (decide (i4<(n1:Int))) (
    gd ((decide ((0≤i4)∧(i4<(n1:Int))))&&(okAt [(CK.int .i64),(CK.int .i64),CK.lst] l2 (((Int.toNat i4) * 3)+0))) (
    br ((iAt l2 (((Int.toNat i4) * 3)+0)) != i3) (
     some (Sum.inl (-1:Int))) (
     let i5:=(IntKind.i64.wrap (i3+(1:Int)))
     gd ((decide ((0≤i4)∧(i4<(n1:Int))))&&(okAt [(CK.int .i64),(CK.int .i64),CK.lst] l2 (((Int.toNat i4) * 3)+0))) (
     br ((iAt l2 ((((Int.toNat i4) * 3)+0)+1)) != i5) (
      some (Sum.inl (-1:Int))) (
      let i6:=(IntKind.i64.wrap (i5+(1:Int)))
      gd ((decide ((0≤i4)∧(i4<(n1:Int))))&&(okAt [(CK.int .i64),(CK.int .i64),CK.lst] l2 (((Int.toNat i4) * 3)+0))) (
      bd (f158 n (nAt l2 (((((Int.toNat i4) * 3)+0)+1)+1)) (lAt l2 (((((Int.toNat i4) * 3)+0)+1)+1)) i6) fun r7 =>
      let i8:=r7
      br (decide (i8<(0:Int))) (
       some (Sum.inl (-1:Int))) (
       f117.l0 n m n1 l2 i8 (IntKind.i64.wrap (i4+(1:Int)))))))))) (
    some (Sum.inr i3))
def f117:Nat→Nat→List T→Int→Option (Int)
 | 0,_,_,_=>none
 | n+1,n1,l2,i3 =>
   bd (f117.l0 n n n1 l2 i3 (0:Int)) fun r4 =>
   sm r4 (fun u5 =>
    let i6:=u5
    some i6) (fun u7 =>
    let i8:=u7
    some i8)
def f117.l0.P:AS:=⟨[(0,qS24),(1,qS28),(5,qS28)],0⟩
def f117.l0.A:Alt ((Int) ⊕ (Int)):=.or (.one .ret ⟨[(1,.dead),(4,qS28)],0⟩ sg_i) (.one (.exit 0) ⟨[(1,qS28),(4,.dead)],0⟩ sg_i)
def f117.l0.F (n m:Nat) (v:Nat × List T × Int × Int):=f117.l0 n m v.1 v.2.1 v.2.2.1 v.2.2.2
def f117.l0.W (n:Nat):LpW:=.of 32 f117.l0.P sg_lii f117.l0.A (f117.l0.F n n)
def f117.P:List Arg:=[qA18,qA14]
def f117.A:RAlt (Int):=.one ⟨[qV11],[none,none]⟩ sg_i
def f117.F (n:Nat) (v:Nat × List T × Int):=f117 n v.1 v.2.1 v.2.2
def f117.O (n:Nat):Orc:=orcOf (E:=E) [f158.w] [f117.l0.W n] n
theorem f117.l0.ok:∀ n,LpS 117 c117 0 n (f117.O n):=lpS f117.l0.P sg_lii f117.l0.A f117.l0.F
theorem f117.ok:FnS 117 f117.P sg_li f117.A f117.F:=fnS c117 f117.O [loopAt c117 0] (fun n=>(.cons (f117.l0.ok n) .nil))
def f117.w:FnW E:=fnW 117 f117.P sg_li f117.A f117.F f117.ok
def f159.l0 (n:Nat):Nat→Nat→List T→Int→Int→Option ((Int) ⊕ (Int))
 | 0,_,_,_,_=>none
 | m+1,n1,l2,i3,i4 =>
   br (decide (i4<(n1:Int))) (
    gd ((decide ((0≤i4)∧(i4<(n1:Int))))&&(okAt [(CK.int .i64),(CK.int .i64),CK.lst] l2 (((Int.toNat i4) * 3)+0))) (
    br ((iAt l2 (((Int.toNat i4) * 3)+0)) != i3) (
     some (Sum.inl (-1:Int))) (
     let i5:=(IntKind.i64.wrap (i3+(1:Int)))
     gd ((decide ((0≤i4)∧(i4<(n1:Int))))&&(okAt [(CK.int .i64),(CK.int .i64),CK.lst] l2 (((Int.toNat i4) * 3)+0))) (
     br ((iAt l2 ((((Int.toNat i4) * 3)+0)+1)) != i5) (
      some (Sum.inl (-1:Int))) (
      let i6:=(IntKind.i64.wrap (i5+(1:Int)))
      gd ((decide ((0≤i4)∧(i4<(n1:Int))))&&(okAt [(CK.int .i64),(CK.int .i64),CK.lst] l2 (((Int.toNat i4) * 3)+0))) (
      bd (f158 n (nAt l2 (((((Int.toNat i4) * 3)+0)+1)+1)) (lAt l2 (((((Int.toNat i4) * 3)+0)+1)+1)) i6) fun r7 =>
      let i8:=r7
      br (decide (i8<(0:Int))) (
       some (Sum.inl (-1:Int))) (
       f159.l0 n m n1 l2 i8 (IntKind.i64.wrap (i4+(1:Int)))))))))) (
    some (Sum.inr i3))
def f159:Nat→Nat→List T→Int→Option (Int)
 | 0,_,_,_=>none
 | n+1,n1,l2,i3 =>
   bd (f159.l0 n n n1 l2 i3 (0:Int)) fun r4 =>
   sm r4 (fun u5 =>
    let i6:=u5
    some i6) (fun u7 =>
    let i8:=u7
    some i8)
def f159.l0.P:AS:=⟨[(0,qS24),(1,qS28),(5,qS28)],0⟩
def f159.l0.A:Alt ((Int) ⊕ (Int)):=.or (.one .ret ⟨[(1,.dead),(4,qS28)],0⟩ sg_i) (.one (.exit 0) ⟨[(1,qS28),(4,.dead)],0⟩ sg_i)
def f159.l0.F (n m:Nat) (v:Nat × List T × Int × Int):=f159.l0 n m v.1 v.2.1 v.2.2.1 v.2.2.2
def f159.l0.W (n:Nat):LpW:=.of 32 f159.l0.P sg_lii f159.l0.A (f159.l0.F n n)
def f159.P:List Arg:=[qA18,qA14]
def f159.A:RAlt (Int):=.one ⟨[qV11],[none,none]⟩ sg_i
def f159.F (n:Nat) (v:Nat × List T × Int):=f159 n v.1 v.2.1 v.2.2
def f159.O (n:Nat):Orc:=orcOf (E:=E) [f158.w] [f159.l0.W n] n
theorem f159.l0.ok:∀ n,LpS 159 c159 0 n (f159.O n):=lpS f159.l0.P sg_lii f159.l0.A f159.l0.F
theorem f159.ok:FnS 159 f159.P sg_li f159.A f159.F:=fnS c159 f159.O [loopAt c159 0] (fun n=>(.cons (f159.l0.ok n) .nil))
def f159.w:FnW E:=fnW 159 f159.P sg_li f159.A f159.F f159.ok
def f118.l0 (n:Nat):Nat→Nat→List T→Int→Int→Option ((Int) ⊕ (Int))
 | 0,_,_,_,_=>none
 | m+1,n1,l2,i3,i4 =>
   br (decide (i4<(n1:Int))) (
    gd ((decide ((0≤i4)∧(i4<(n1:Int))))&&(okAt [CK.lst,(CK.int .i64),(CK.flt .f32),CK.bool,CK.bool] l2 (((Int.toNat i4) * 5)+0))) (
    bd (f159 n (nAt l2 (((Int.toNat i4) * 5)+0)) (lAt l2 (((Int.toNat i4) * 5)+0)) i3) fun r5 =>
    let i6:=r5
    br (decide (i6<(0:Int))) (
     some (Sum.inl (-1:Int))) (
     gd ((decide ((0≤i4)∧(i4<(n1:Int))))&&(okAt [CK.lst,(CK.int .i64),(CK.flt .f32),CK.bool,CK.bool] l2 (((Int.toNat i4) * 5)+0))) (
     br ((iAt l2 ((((Int.toNat i4) * 5)+0)+1)) != i6) (
      some (Sum.inl (-1:Int))) (
      let i7:=(IntKind.i64.wrap (i6+(1:Int)))
      gd ((decide ((0≤i4)∧(i4<(n1:Int))))&&(okAt [CK.lst,(CK.int .i64),(CK.flt .f32),CK.bool,CK.bool] l2 (((Int.toNat i4) * 5)+0))) (
      br (fne .f32 (fAt l2 (((((Int.toNat i4) * 5)+0)+1)+1)) (FloatKind.nearest .f32 i7)) (
       some (Sum.inl (-1:Int))) (
       let i8:=(IntKind.i64.wrap (i7+(1:Int)))
       gd ((decide ((0≤i4)∧(i4<(n1:Int))))&&(okAt [CK.lst,(CK.int .i64),(CK.flt .f32),CK.bool,CK.bool] l2 (((Int.toNat i4) * 5)+0))) (
       br (!((bAt l2 ((((((Int.toNat i4) * 5)+0)+1)+1)+1))==((Int.tmod i8 (3:Int))==(0:Int)))) (
        some (Sum.inl (-1:Int))) (
        let i9:=(IntKind.i64.wrap (i8+(1:Int)))
        gd ((decide ((0≤i4)∧(i4<(n1:Int))))&&(okAt [CK.lst,(CK.int .i64),(CK.flt .f32),CK.bool,CK.bool] l2 (((Int.toNat i4) * 5)+0))) (
        br (!((bAt l2 (((((((Int.toNat i4) * 5)+0)+1)+1)+1)+1))==((Int.tmod i9 (3:Int))==(0:Int)))) (
         some (Sum.inl (-1:Int))) (
         let i10:=(IntKind.i64.wrap (i9+(1:Int)))
         f118.l0 n m n1 l2 i10 (IntKind.i64.wrap (i4+(1:Int)))))))))))))) (
    some (Sum.inr i3))
def f118:Nat→Nat→List T→Int→Option (Int)
 | 0,_,_,_=>none
 | n+1,n1,l2,i3 =>
   bd (f118.l0 n n n1 l2 i3 (0:Int)) fun r4 =>
   sm r4 (fun u5 =>
    let i6:=u5
    some i6) (fun u7 =>
    let i8:=u7
    some i8)
def f118.l0.P:AS:=⟨[(0,qS23),(1,qS28),(5,qS28)],0⟩
def f118.l0.A:Alt ((Int) ⊕ (Int)):=.or (.one .ret ⟨[(1,.dead),(4,qS28)],0⟩ sg_i) (.one (.exit 0) ⟨[(1,qS28),(4,.dead)],0⟩ sg_i)
def f118.l0.F (n m:Nat) (v:Nat × List T × Int × Int):=f118.l0 n m v.1 v.2.1 v.2.2.1 v.2.2.2
def f118.l0.W (n:Nat):LpW:=.of 32 f118.l0.P sg_lii f118.l0.A (f118.l0.F n n)
def f118.P:List Arg:=[qA20,qA14]
def f118.A:RAlt (Int):=.one ⟨[qV11],[none,none]⟩ sg_i
def f118.F (n:Nat) (v:Nat × List T × Int):=f118 n v.1 v.2.1 v.2.2
def f118.O (n:Nat):Orc:=orcOf (E:=E) [f159.w] [f118.l0.W n] n
theorem f118.l0.ok:∀ n,LpS 118 c118 0 n (f118.O n):=lpS f118.l0.P sg_lii f118.l0.A f118.l0.F
theorem f118.ok:FnS 118 f118.P sg_li f118.A f118.F:=fnS c118 f118.O [loopAt c118 0] (fun n=>(.cons (f118.l0.ok n) .nil))
def f118.w:FnW E:=fnW 118 f118.P sg_li f118.A f118.F f118.ok
def f59:Nat→Nat→List T→Nat→List T→Int→Option (Int)
 | 0,_,_,_,_,_=>none
 | n+1,n1,l2,n3,l4,i5 =>
   bd (f117 n n1 l2 i5) fun r6 =>
   let i7:=r6
   br (decide (i7<(0:Int))) (
    some (-1:Int)) (
    bd (f118 n n3 l4 i7) fun r8 =>
    let i9:=r8
    br (decide (i9<(0:Int))) (
     some (-1:Int)) (
     some i9))
def f59.P:List Arg:=[qA21,qA14]
def f59.A:RAlt (Int):=.one ⟨[qV11],[none,none]⟩ sg_i
def f59.F (n:Nat) (v:Nat × List T × Nat × List T × Int):=f59 n v.1 v.2.1 v.2.2.1 v.2.2.2.1 v.2.2.2.2
def f59.O (n:Nat):Orc:=orcOf (E:=E) [f117.w,f118.w] [] n
theorem f59.ok:FnS 59 f59.P sg_lli f59.A f59.F:=fnS c59 f59.O
def f59.w:FnW E:=fnW 59 f59.P sg_lli f59.A f59.F f59.ok
def f9:Nat→Nat→List T→Nat→List T→Int→Int→Option (Bool)
 | 0,_,_,_,_,_,_=>none
 | n+1,n1,l2,n3,l4,i5,i6 =>
   bd (f55 n n1 l2 n3 l4 (1048576:Int)) fun r7 =>
   let i8:=r7
   br (decide (i8<(0:Int))) (
    some true) (
    bd (f56 n n1 l2 n3 l4) fun r9 =>
    let n10:=r9.1
    let l11:=r9.2.1
    let n12:=r9.2.2.1
    let l13:=r9.2.2.2
    bd (f54 n n10 l11 n12 l13 i5 i6) fun r14 =>
    let n15:=r14.1
    let l16:=r14.2.1
    let n17:=r14.2.2.1
    let l18:=r14.2.2.2.1
    let b19:=r14.2.2.2.2
    bd (f56 n n1 l2 n3 l4) fun r20 =>
    let n21:=r20.1
    let l22:=r20.2.1
    let n23:=r20.2.2.1
    let l24:=r20.2.2.2
    bd (f53 n n21 l22 n23 l24 i5 i6) fun r25 =>
    let n26:=r25.1
    let l27:=r25.2.1
    let n28:=r25.2.2.1
    let l29:=r25.2.2.2.1
    let b30:=r25.2.2.2.2
    bd (f57 n n26 l27 n28 l29 n15 l16 n17 l18) fun r31 =>
    let b32:=r31
    br (!b32) (
     some false) (
     br (!(b30==b19)) (
      some false) (
      bd (f56 n n1 l2 n3 l4) fun r33 =>
      let n34:=r33.1
      let l35:=r33.2.1
      let n36:=r33.2.2.1
      let l37:=r33.2.2.2
      bd (f57 n n21 l22 n23 l24 n34 l35 n36 l37) fun r38 =>
      let b39:=r38
      br (!b39) (
       some false) (
       bd (f58 n n21 l22 n23 l24 (1:Int)) fun r40 =>
       let i41:=r40.1
       br (decide (i41<(0:Int))) (
        some false) (
        bd (f57 n n26 l27 n28 l29 n15 l16 n17 l18) fun r46 =>
        let b47:=r46
        br (!b47) (
         some false) (
         br (!(b30==b19)) (
          some false) (
          bd (f58 n n26 l27 n28 l29 (1:Int)) fun r48 =>
          let i49:=r48.1
          let n50:=r48.2.1
          let l51:=r48.2.2.1
          let n52:=r48.2.2.2.1
          let l53:=r48.2.2.2.2
          bd (f59 n n50 l51 n52 l53 (1:Int)) fun r54 =>
          let i55:=r54
          br (decide (i55<(0:Int))) (
           some false) (
           br (i55 != i49) (
            some false) (
            bd (f56 n n1 l2 n3 l4) fun r56 =>
            let n57:=r56.1
            let l58:=r56.2.1
            let n59:=r56.2.2.1
            let l60:=r56.2.2.2
            bd (f53 n n57 l58 n59 l60 i5 i6) fun r61 =>
            let n62:=r61.1
            let l63:=r61.2.1
            let n64:=r61.2.2.1
            let l65:=r61.2.2.2.1
            let b66:=r61.2.2.2.2
            bd (f57 n n62 l63 n64 l65 n15 l16 n17 l18) fun r67 =>
            let b68:=r67
            br (!b68) (
             some false) (
             br (!(b66==b19)) (
              some false) (
              bd (f59 n n50 l51 n52 l53 (1:Int)) fun r69 =>
              let i70:=r69
              br (decide (i70<(0:Int))) (
               some false) (
               br (i70 != i49) (
                some false) (
                some true)))))))))))))
def f9.P:List Arg:=[qA21,qA14,qA14]
def f9.A:RAlt (Bool):=.one ⟨[qV12],[none,none,none]⟩ sg_b
def f9.F (n:Nat) (v:Nat × List T × Nat × List T × Int × Int):=f9 n v.1 v.2.1 v.2.2.1 v.2.2.2.1 v.2.2.2.2.1 v.2.2.2.2.2
def f9.O (n:Nat):Orc:=orcOf (E:=E) [f55.w,f56.w,f54.w,f53.w,f57.w,f58.w,f59.w] [] n
theorem f9.ok:FnS 9 f9.P sg_llii f9.A f9.F:=fnS c9 f9.O
def f9.w:FnW E:=fnW 9 f9.P sg_llii f9.A f9.F f9.ok
end Go.Proofs.Ytdobhipbgpiceaa.D
end
section
namespace Go.Proofs.Ytdobhipbgpiceaa.D
open Go Go.Desk
set_option linter.unusedVariables false
theorem s_few (n k:Nat) (l:List T):f148 (n+1) k l=some (decide ((k:Int)≤256)):=by rw[f148]
theorem i_few (n k:Nat) (l:List T):f66 (n+1) k l=some (decide ((k:Int)≤256)):=by rw[f66]
theorem s_in (n:Nat) (a b c:Int):f106 (n+1) a b c=some (decide (b≤a∧a≤c)):=by
 rw[f106]
 by_cases h:b≤a <;>simp[br,h]
theorem i_in (n:Nat) (a b c:Int):f67 (n+1) a b c=some (decide (b≤a∧a≤c)):=by
 rw[f67]
 by_cases h:b≤a <;>simp[br,h]
theorem i_copy (n:Nat) (xs:List Nat) (h:xs.length≤2147483648):f84 (n+1) xs.length (fls .f32 xs)=some (xs.length,fls .f32 xs):=by
 rw[f84,Nat.zero_add,le_ble h];rfl
theorem i_sized (n:Nat) (x:Int):f87 (n+1) x=some x:=by rw[f87]
theorem i_finite (n:Nat) (x:Nat):f174 (n+1) x=some (fin32 x):=by rw[f174,sub_finite]
def peakM (m:Nat) (xs:List Nat):Nat:=xs.foldl (fun m x=>if fgt .f32 (size32 x) m then size32 x else m) m
def clipM (lim x:Nat):Nat:=if fgt .f32 (size32 x) lim then (if flt .f32 x 0 then negF .f32 lim else lim) else x
def limT (lim p:Nat):Nat:=if fgt .f32 p lim then fdiv .f32 lim p else 1065353216
def limG (t gn:Nat):Nat:=if flt .f32 t gn then t else if fne .f32 gn gn then t else gn
def limStep (lim rise:Nat) (s:Nat × List Nat) (x:Nat):Nat × (Nat × List Nat) :=
 (clipM lim (fmul .f32 ((s.2++[x]).getD 0 0) (limG (limT lim (peakM 0 (s.2++[x]))) (fadd .f32 s.1 rise))),(limG (limT lim (peakM 0 (s.2++[x]))) (fadd .f32 s.1 rise),(s.2++[x]).drop 1))
theorem i_islimit (n:Nat) (lim:Nat):f137 (n+2) lim=some (fin32 lim&&fgt .f32 lim 0):=by
 rw[f137,i_finite]
 cases fin32 lim <;>rfl
structure Eff where
 kind:Int
 len:Int
 nums:List Nat
def effC (e:Eff):List T:=[.int .i64 e.kind,.int .i64 e.len,.lst e.nums.length (fls .f32 e.nums)]
def effs (es:List Eff):List T:=es.flatMap effC
def eAt (es:List Eff) (i:Nat):Eff:=es.getD i ⟨5,0,[]⟩
theorem eff_get {c:Nat} (hc:c<3):∀ (ts:List Eff) (i:Nat),i<ts.length→(effs ts)[i * 3+c]?=(effC (eAt ts i))[c]?
 | [],i,h=>by simp at h
 | t::ts,0,_=>by
   show (effC t++effs ts)[0 * 3+c]?=_
   rw[List.getElem?_append_left (by simp[effC];omega),Nat.zero_mul,Nat.zero_add];rfl
 | t::ts,i+1,h=>by
   show (effC t++effs ts)[(i+1) * 3+c]?=_
   rw[List.getElem?_append_right (by simp[effC];omega),show (i+1) * 3+c - (effC t).length=i * 3+c by simp[effC];omega,eff_get hc ts i (by simpa using h)]
   rfl
section
variable {ts:List Eff} {i:Nat} (h:i<ts.length)
include h
theorem okE:okAt [.int .i64,.int .i64,.lst] (effs ts) (i * 3+0)=true:=by
 have h0:=eff_get (c:=0) (by decide) ts i h
 have h1:=eff_get (c:=1) (by decide) ts i h
 have h2:=eff_get (c:=2) (by decide) ts i h
 simp only[effC,List.getElem?_cons_zero,List.getElem?_cons_succ] at h0 h1 h2
 rw[Nat.add_zero] at h0
 simp[okAt,Nat.add_assoc,h0,h1,h2,isCK]
theorem kE:iAt (effs ts) (i * 3+0)=(eAt ts i).kind:=by unfold iAt;rw[eff_get (c:=0) (by decide) ts i h];rfl
theorem gE:iAt (effs ts) (i * 3+0+1)=(eAt ts i).len:=by unfold iAt;rw[show i * 3+0+1=i * 3+1 from rfl,eff_get (c:=1) (by decide) ts i h];rfl
theorem nE:nAt (effs ts) (i * 3+0+1+1)=(eAt ts i).nums.length:=by unfold nAt;rw[show i * 3+0+1+1=i * 3+2 from rfl,eff_get (c:=2) (by decide) ts i h];rfl
theorem lE:lAt (effs ts) (i * 3+0+1+1)=fls .f32 (eAt ts i).nums:=by unfold lAt;rw[show i * 3+0+1+1=i * 3+2 from rfl,eff_get (c:=2) (by decide) ts i h];rfl
theorem eff_drop:ts.drop i=eAt ts i::ts.drop (i+1):=by
 rw[List.drop_eq_getElem_cons h]
 simp[eAt,List.getD,h]
theorem eAt_mem:eAt ts i∈ts:=by
 have:eAt ts i=ts[i]:=by simp[eAt,List.getD,h]
 rw[this];exact List.getElem_mem h
end
theorem push_eff (acc:List Eff) (e:Eff):effs acc++setN (reps 1 [(T.int .i64 (0:Int)),(T.int .i64 (0:Int)),(T.lst 0 [])]) 0 (effC e)=effs (acc++[e]):=by
 unfold effs
 rw[List.flatMap_append,List.flatMap_singleton];rfl
inductive Ef
 | scale (g:Nat)
 | filt (f1 f2 f3 f4 f5:Nat)
 | echo (L:Nat) (p q:Nat)
 | squeeze (p q r s:Nat)
 | clip (g:Nat)
 | bend
 | lim (A:Nat) (l:Nat) (r:Nat)
def Ef.eff:Ef→Eff
 | .scale g=>⟨0,0,[g]⟩
 | .filt a b c d e=>⟨1,0,[a,b,c,d,e]⟩
 | .echo L p q=>⟨2,(L:Int),[p,q]⟩
 | .squeeze p q r s=>⟨3,0,[p,q,r,s]⟩
 | .clip g=>⟨4,0,[g]⟩
 | .bend=>⟨5,0,[]⟩
 | .lim A l r=>⟨6,(A:Int),[l,r]⟩
def Ef.Ok:Ef→Prop
 | .echo L _ _=>1≤L∧L≤32
 | .lim A l _=>A≤32∧W32 l∧(fin32 l&&fgt .f32 l 0)=true
 | .clip g=>W32 g
 | _=>True
def effL (es:List Ef):List Eff:=es.map (·.eff)
def row (ls:List (List Nat)) (i:Nat):List Nat:=ls.getD i []
section
variable {ls:List (List Nat)} {i:Nat} (h:i<ls.length)
include h
end
theorem row_set {ls:List (List Nat)} {i j:Nat} {r:List Nat} (hj:j<ls.length):row (ls.set i r) j=if i=j then r else row ls j:=by
 unfold row
 by_cases h:i=j
 ·subst h;simp[List.getD,hj]
 ·simp[List.getD,h,List.getElem?_set_ne]
def Ef.keep:Ef→Nat
 | .scale _=>0
 | .filt .. =>2
 | .echo L _ _=>L
 | .squeeze .. =>1
 | .clip _=>0
 | .bend=>0
 | .lim A _ _=>A+1
def efAt (es:List Ef) (i:Nat):Ef:=es.getD i .bend
theorem effL_length (es:List Ef):(effL es).length=es.length:=by simp[effL]
def Sok (es:List Ef) (ls:List (List Nat)):Prop:=ls.length=es.length∧∀ i,i<ls.length→(row ls i).length=(efAt es i).keep∧(∀ y∈row ls i,W32 y)
theorem Sok.set {es:List Ef} {ls:List (List Nat)} (h:Sok es ls) {i:Nat} {r:List Nat} (hi:i<ls.length) (hr:r.length=(efAt es i).keep) (hw:∀ y∈r,W32 y):Sok es (ls.set i r):=by
 refine ⟨by rw[List.length_set];exact h.1,fun j hj => ?_⟩
 rw[List.length_set] at hj
 rw[row_set hj]
 by_cases e:i=j
 ·subst e;rw[if_pos rfl];exact ⟨hr,hw⟩
 ·rw[if_neg e];exact h.2 j hj
def bendM (x:Nat):Nat:=if fge .f32 x 1065353216=true then 1065353216 else if fle .f32 x 3212836864=true then 3212836864 else fmul .f32 x (fsub .f32 1069547520 (fmul .f32 1056964608 (fmul .f32 x x)))
def echoStep (p q:Nat) (w:List Nat) (x:Nat):Nat × List Nat:=(fadd .f32 x (fmul .f32 q (headM w)),tookM w (flushM (fadd .f32 x (fmul .f32 p (headM w)))))
section
variable {σ τ α β:Type}
end
def Ef.step:Ef→List Nat→Nat→Nat × List Nat
 | .scale g,_,x=>(fmul .f32 x g,[])
 | .filt a b c d e,w,x=>((fstep (a,b,c,d,e) 1 true (w.getD 0 0,w.getD 1 0,0,0) x).1,[(fstep (a,b,c,d,e) 1 true (w.getD 0 0,w.getD 1 0,0,0) x).2.1,(fstep (a,b,c,d,e) 1 true (w.getD 0 0,w.getD 1 0,0,0) x).2.2.1])
 | .echo L p q,w,x=>echoStep p q w x
 | .squeeze a r t q,w,x=>((duckStep a r t q (w.getD 0 0) (x,x)).1,[(duckStep a r t q (w.getD 0 0) (x,x)).2])
 | .clip g,_,x=>(clipM g x,[])
 | .bend,_,x=>(bendM x,[])
 | .lim A k r,w,x=>((limStep k r (w.getD 0 0,w.drop 1) x).1,(limStep k r (w.getD 0 0,w.drop 1) x).2.1::(limStep k r (w.getD 0 0,w.drop 1) x).2.2)
def Fit (e:Ef) (w:List Nat):Prop:=w.length=e.keep∧AllW w
def Fits:List Ef→List (List Nat)→Prop
 | e::es,w::ls=>Fit e w∧Fits es ls
 | [],[]=>True
 | _,_=>False
theorem Fits.len:∀ {es:List Ef} {ls:List (List Nat)},Fits es ls→ls.length=es.length
 | [],[],_=>rfl
 | _::_,_::_,h=>by simp[h.2.len]
 | [],_::_,h=>h.elim
 | _::_,[],h=>h.elim
theorem Fits.at:∀ {es:List Ef} {ls:List (List Nat)},Fits es ls→∀ i,i<es.length→Fit (efAt es i) (row ls i)
 | [],[],_,i,hi=>by simp at hi
 | _::_,_::_,h,0,_=>h.1
 | _::_,_::_,h,i+1,hi=>h.2.at i (by simpa using hi)
 | [],_::_,h,_,_=>h.elim
 | _::_,[],h,_,_=>h.elim
theorem s_limitB (n:Nat) (l:Nat):f194 (n+2) l=some (fin32 l&&fgt .f32 l 0):=by
 have e:f205 (n+1) l=some (fin32 l):=by rw[f205,sub_finite]
 rw[f194,e]
 cases fin32 l <;>rfl
def effB (e:Eff):Bool :=
 if e.kind=0∨e.kind=4 then decide (e.len=0∧e.nums.length=1)
 else if e.kind=1 then decide (e.len=0∧e.nums.length=5)
 else if e.kind=2 then decide ((1≤e.len∧e.len≤32)∧e.nums.length=2)
 else if e.kind=3 then decide (e.len=0∧e.nums.length=4)
 else if e.kind=5 then decide (e.len=0∧e.nums.length=0)
 else if e.kind=6 then decide ((0≤e.len∧e.len≤32)∧e.nums.length=2)&&(fin32 (e.nums.getD 0 0)&&fgt .f32 (e.nums.getD 0 0) 0)
 else false
theorem i_hasB (n:Nat) (a b:Int) (c:Nat) (l:List T) (lo hi k:Int):f136 (n+2) a b c l lo hi k=some (decide (lo≤b∧b≤hi)&&((c:Int)==k)):=by
 rw[f136,i_in]
 simp only[bd_s]
 cases decide (lo≤b∧b≤hi) <;>rfl
theorem kind_cases (k:Int):k=0∨k=1∨k=2∨k=3∨k=4∨k=5∨k=6∨((k==0)=false∧(k==1)=false∧(k==2)=false∧(k==3)=false∧(k==4)=false∧(k==5)=false∧(k==6)=false):=by
 simp only[beq_eq_false_iff_ne];omega
theorem has_dec (b:Int) (c:Nat) (k:Nat):(decide ((0:Int)≤b∧b≤0)&&((c:Int)==(k:Int)))=decide (b=0∧c=k):=by
 rw[Bool.eq_iff_iff];simp;omega
theorem i_effB (n:Nat) (e:Eff):f76 (n+4) e.kind e.len e.nums.length (fls .f32 e.nums)=some (effB e):=by
 obtain ⟨k,b,l⟩:=e
 rw[f76]
 unfold effB
 simp only[i_hasB (n+1)]
 rcases kind_cases k with rfl | rfl | rfl | rfl | rfl | rfl | rfl | ⟨h0,h1,h2,h3,h4,h5,h6⟩
 ·have:=has_dec b l.length 1
  simp only[beq_self_eq_true,br_t,bd_s]
  rw[show ((1:Nat):Int)=1 from rfl] at this
  rw[this];rfl
 ·have:=has_dec b l.length 5
  simp only[show ((1:Int)==0)=false from rfl,show ((1:Int)==4)=false from rfl,beq_self_eq_true,br_t,br_f,bd_s]
  rw[show ((5:Nat):Int)=5 from rfl] at this
  rw[this];rfl
 ·simp only[show ((2:Int)==0)=false from rfl,show ((2:Int)==4)=false from rfl,show ((2:Int)==1)=false from rfl,beq_self_eq_true,br_t,br_f,bd_s]
  congr 1
  rw[if_neg (by decide),if_neg (by decide),if_pos trivial,Bool.eq_iff_iff];simp;omega
 ·have:=has_dec b l.length 4
  simp only[show ((3:Int)==0)=false from rfl,show ((3:Int)==4)=false from rfl,show ((3:Int)==1)=false from rfl,show ((3:Int)==2)=false from rfl,beq_self_eq_true,br_t,br_f,bd_s]
  rw[show ((4:Nat):Int)=4 from rfl] at this
  rw[this];rfl
 ·have:=has_dec b l.length 1
  simp only[show ((4:Int)==0)=false from rfl,beq_self_eq_true,br_t,br_f,bd_s]
  rw[show ((1:Nat):Int)=1 from rfl] at this
  rw[this];rfl
 ·have:=has_dec b l.length 0
  simp only[show ((5:Int)==0)=false from rfl,show ((5:Int)==4)=false from rfl,show ((5:Int)==1)=false from rfl,show ((5:Int)==2)=false from rfl,show ((5:Int)==3)=false from rfl,beq_self_eq_true,br_t,br_f,bd_s]
  rw[show ((0:Nat):Int)=0 from rfl] at this
  rw[this];rfl
 ·simp only[show ((6:Int)==0)=false from rfl,show ((6:Int)==4)=false from rfl,show ((6:Int)==1)=false from rfl,show ((6:Int)==2)=false from rfl,show ((6:Int)==3)=false from rfl,show ((6:Int)==5)=false from rfl,beq_self_eq_true,br_t,br_f,bd_s]
  rw[if_neg (by decide),if_neg (by decide),if_neg (by decide),if_neg (by decide),if_neg (by decide),if_pos trivial]
  by_cases hv:(0≤b∧b≤32)∧l.length=2
  ·rw[decide_eq_true hv.1,decide_eq_true hv,show (((l.length:Nat):Int)==2)=true by rw[hv.2];rfl,decide_eq_true (show (0:Int)≤0∧(0:Int)<((l.length:Nat):Int) by omega),okAt_fls (by omega)]
   simp only[Bool.and_self,br_t,gd_t,i_islimit,bd_s,fAt_fls,Bool.true_and]
  ·rw[decide_eq_false hv]
   have:(decide (0≤b∧b≤32)&&(((l.length:Nat):Int)==2))=false:=by
    rw[Bool.eq_false_iff];intro h;apply hv;simp at h;omega
   rw[this];rfl
 ·simp only[h0,h1,h2,h3,h4,h5,h6,br_f]
  simp only[beq_eq_false_iff_ne] at h0 h1 h2 h3 h4 h5 h6
  rw[if_neg (by simp[h0,h4]),if_neg h1,if_neg h2,if_neg h3,if_neg h5,if_neg h6]
theorem s_effB (n:Nat) (e:Eff):f177 (n+4) e.kind e.len e.nums.length (fls .f32 e.nums)=some (effB e):=by
 obtain ⟨k,b,l⟩:=e
 rw[f177]
 unfold effB
 simp only[s_in (n+2)]
 have cut:∀ (lo hi:Int) (c d:Int) (v:Option Bool),f133 (n+3) k b=some (c,d) →
   (bd (some (decide (lo≤b∧b≤hi))) fun r=>br (!r) (some false) (bd (f133 (n+3) k b) fun r7=>br (((l.length:Nat):Int)==r7.1) v (some false)))=br (decide (lo≤b∧b≤hi)&&(((l.length:Nat):Int)==c)) v (some false):=by
  intro lo hi c d v h
  rw[h]
  simp only[bd_s]
  cases decide (lo≤b∧b≤hi) <;>rfl
 rcases kind_cases k with rfl | rfl | rfl | rfl | rfl | rfl | rfl | ⟨h0,h1,h2,h3,h4,h5,h6⟩
 ·have c:=cut 0 0 1 0 (some true) (by rw[f133];rfl)
  have:=has_dec b l.length 1
  rw[show ((1:Nat):Int)=1 from rfl] at this
  simp only[show ((0:Int)==2)=false from rfl,show ((0:Int)==6)=false from rfl,br_f,show ((0:Int) != 6)=true from rfl,br_t]
  refine c.trans ?_
  rw[this]
  show br (decide (b=0∧l.length=1)) (some true) (some false)=some (decide (b=0∧l.length=1))
  cases decide (b=0∧l.length=1) <;>rfl
 ·have c:=cut 0 0 5 2 (some true) (by rw[f133];rfl)
  have:=has_dec b l.length 5
  rw[show ((5:Nat):Int)=5 from rfl] at this
  simp only[show ((1:Int)==2)=false from rfl,show ((1:Int)==6)=false from rfl,br_f,show ((1:Int) != 6)=true from rfl,br_t]
  refine c.trans ?_
  rw[this]
  show br (decide (b=0∧l.length=5)) (some true) (some false)=some (decide (b=0∧l.length=5))
  cases decide (b=0∧l.length=5) <;>rfl
 ·have c:=cut 1 32 2 b (some true) (by rw[f133];rfl)
  simp only[beq_self_eq_true,show ((2:Int)==6)=false from rfl,br_f,show ((2:Int) != 6)=true from rfl,br_t]
  refine c.trans ?_
  have e:(decide (1≤b∧b≤32)&&(((l.length:Nat):Int)==2))=decide ((1≤b∧b≤32)∧l.length=2):=by rw[Bool.eq_iff_iff];simp;omega
  rw[e,if_neg (by decide),if_neg (by decide),if_pos trivial]
  cases decide ((1≤b∧b≤32)∧l.length=2) <;>rfl
 ·have c:=cut 0 0 4 1 (some true) (by rw[f133];rfl)
  have:=has_dec b l.length 4
  rw[show ((4:Nat):Int)=4 from rfl] at this
  simp only[show ((3:Int)==2)=false from rfl,show ((3:Int)==6)=false from rfl,br_f,show ((3:Int) != 6)=true from rfl,br_t]
  refine c.trans ?_
  rw[this]
  show br (decide (b=0∧l.length=4)) (some true) (some false)=some (decide (b=0∧l.length=4))
  cases decide (b=0∧l.length=4) <;>rfl
 ·have c:=cut 0 0 1 0 (some true) (by rw[f133];rfl)
  have:=has_dec b l.length 1
  rw[show ((1:Nat):Int)=1 from rfl] at this
  simp only[show ((4:Int)==2)=false from rfl,show ((4:Int)==6)=false from rfl,br_f,show ((4:Int) != 6)=true from rfl,br_t]
  refine c.trans ?_
  rw[this]
  show br (decide (b=0∧l.length=1)) (some true) (some false)=some (decide (b=0∧l.length=1))
  cases decide (b=0∧l.length=1) <;>rfl
 ·have c:=cut 0 0 0 0 (some true) (by rw[f133];rfl)
  have:=has_dec b l.length 0
  rw[show ((0:Nat):Int)=0 from rfl] at this
  simp only[show ((5:Int)==2)=false from rfl,show ((5:Int)==6)=false from rfl,br_f,show ((5:Int) != 6)=true from rfl,br_t]
  refine c.trans ?_
  rw[this]
  show br (decide (b=0∧l.length=0)) (some true) (some false)=some (decide (b=0∧l.length=0))
  cases decide (b=0∧l.length=0) <;>rfl
 ·have c:=fun v=>cut 0 32 2 (IntKind.i64.wrap (1+b)) v (by rw[f133];rfl)
  simp only[show ((6:Int)==2)=false from rfl,beq_self_eq_true,br_f,show ((6:Int) != 6)=false from rfl,br_t]
  refine (c _).trans ?_
  have e:(decide (0≤b∧b≤32)&&(((l.length:Nat):Int)==2))=decide ((0≤b∧b≤32)∧l.length=2):=by rw[Bool.eq_iff_iff];simp;omega
  rw[e,if_neg (by decide),if_neg (by decide),if_neg (by decide),if_neg (by decide),if_neg (by decide),if_pos trivial]
  by_cases hv:(0≤b∧b≤32)∧l.length=2
  ·rw[decide_eq_true hv,decide_eq_true (show (0:Int)≤0∧(0:Int)<((l.length:Nat):Int) by omega),okAt_fls (by omega),s_limitB (n+1)]
   simp only[Bool.and_self,br_t,gd_t,bd_s,fAt_fls,Bool.true_and]
  ·rw[decide_eq_false hv];rfl
 ·have hc:f133 (n+3) k b=some (-1,-1):=by
   rw[f133];simp only[h0,h1,h2,h3,h4,h5,h6,br_f]
  have c:=fun v=>cut 0 0 (-1) (-1) v hc
  simp only[h2,h6,br_f]
  refine (c _).trans ?_
  simp only[beq_eq_false_iff_ne] at h0 h1 h2 h3 h4 h5 h6
  rw[if_neg (by simp[h0,h4]),if_neg h1,if_neg h2,if_neg h3,if_neg h5,if_neg h6,show (((l.length:Nat):Int) == -1)=false by rw[beq_eq_false_iff_ne];omega,Bool.and_false]
  rfl
def GoodE (e:Eff):Prop:=GoodI .i64 e.kind∧GoodI .i64 e.len∧(∀ x∈e.nums,W32 x)
theorem ef_of {e:Eff} (h:effB e=true) (hw:∀ x∈e.nums,W32 x):∃ f:Ef,f.Ok∧f.eff=e:=by
 obtain ⟨k,b,l⟩:=e
 unfold effB at h
 simp only at h hw
 split at h
 ·rename_i hk
  simp only[decide_eq_true_eq] at h
  obtain ⟨rfl,hl⟩:=h
  match l,hl with
  | [g],_ =>
    rcases hk with rfl | rfl
    ·exact ⟨.scale g,trivial,rfl⟩
    ·exact ⟨.clip g,hw g (by simp),rfl⟩
 ·split at h
  ·rename_i _ hk
   subst hk
   simp only[decide_eq_true_eq] at h
   obtain ⟨rfl,hl⟩:=h
   match l,hl with
   | [a,b,c,d,e],_=>exact ⟨.filt a b c d e,trivial,rfl⟩
  ·split at h
   ·rename_i _ _ hk
    subst hk
    simp only[decide_eq_true_eq] at h
    obtain ⟨⟨h1,h2⟩,hl⟩:=h
    obtain ⟨L,rfl⟩:=Int.eq_ofNat_of_zero_le (show 0≤b by omega)
    match l,hl with
    | [p,q],_=>exact ⟨.echo L p q,⟨by omega,by omega⟩,rfl⟩
   ·split at h
    ·rename_i _ _ _ hk
     subst hk
     simp only[decide_eq_true_eq] at h
     obtain ⟨rfl,hl⟩:=h
     match l,hl with
     | [a,b,c,d],_=>exact ⟨.squeeze a b c d,trivial,rfl⟩
    ·split at h
     ·rename_i _ _ _ _ hk
      subst hk
      simp only[decide_eq_true_eq] at h
      obtain ⟨rfl,hl⟩:=h
      match l,hl with
      | [],_=>exact ⟨.bend,trivial,rfl⟩
     ·split at h
      ·rename_i _ _ _ _ _ hk
       subst hk
       rw[Bool.and_eq_true,decide_eq_true_eq] at h
       obtain ⟨⟨⟨h1,h2⟩,hl⟩,hlim⟩:=h
       obtain ⟨A,rfl⟩:=Int.eq_ofNat_of_zero_le h1
       match l,hl with
       | [p,q],_=>exact ⟨.lim A p q,⟨by omega,hw p (by simp),hlim⟩,rfl⟩
      ·cases h
def chainB (cs:List Eff):Bool:=decide (cs.length≤8)&&cs.all effB
theorem efs_of:∀ {cs:List Eff},cs.all effB=true→(∀ e∈cs,GoodE e)→∃ es:List Ef,effL es=cs∧∀ e∈es,e.Ok
 | [],_,_=>⟨[],rfl,by simp⟩
 | c::cs,h,hw=>by
   simp only[List.all_cons,Bool.and_eq_true] at h
   obtain ⟨f,h1,h2⟩:=ef_of h.1 (hw c (by simp)).2.2
   obtain ⟨es,h3,h4⟩:=efs_of h.2 (fun e he=>hw e (by simp[he]))
   refine ⟨f::es,by simp[effL] at h3 ⊢;exact ⟨h2,h3⟩,fun e he => ?_⟩
   rcases List.mem_cons.1 he with rfl | he
   ·exact h1
   ·exact h4 e he
theorem all_drop {cs:List Eff} {i:Nat} (h:i<cs.length):(cs.drop i).all effB=(effB (eAt cs i)&&(cs.drop (i+1)).all effB):=by
 rw[eff_drop h,List.all_cons]
theorem i_chainB_loop (n:Nat) (N:Nat) (ts:List T) (cs:List Eff) (hl:cs.length≤100):∀ (j i m:Nat),i+j=cs.length→j<m →
  f23.l0 (n+4) m N ts cs.length (effs cs) (cs.length:Int) (i:Int)=some (if (cs.drop i).all effB then Sum.inr () else Sum.inl false):=by
 intro j
 induction j with
 | zero =>
   intro i m hi hm
   obtain ⟨m,rfl⟩:∃ k,m=k+1:=⟨m - 1,by omega⟩
   rw[f23.l0,nlt_dec (by omega),List.drop_eq_nil_of_le (by omega)];rfl
 | succ j ih =>
   intro i m hi hm
   obtain ⟨m,rfl⟩:∃ k,m=k+1:=⟨m - 1,by omega⟩
   have h:i<cs.length:=by omega
   rw[f23.l0,lt_dec h,in_dec h,Int.toNat_natCast,okE h,all_drop h]
   simp only[br_t,Bool.and_self,gd_t,kE h,gE h,nE h,lE h,i_effB n (eAt cs i),bd_s,wrap_succ (show i<9223372036854775807 by omega)]
   cases effB (eAt cs i)
   ·rfl
   ·simp only[Bool.not_true,br_f,Bool.true_and]
    exact ih (i+1) m (by omega) (by omega)
theorem i_chainB (n:Nat) (cs:List Eff) (hn:100<n):f23 (n+5) cs.length (effs cs)=some (chainB cs):=by
 rw[f23]
 unfold chainB
 by_cases h:cs.length≤8
 ·have e:=i_chainB_loop n cs.length (effs cs) cs (by omega) cs.length 0 (n+4) (by omega) (by omega)
  have e:f23.l0 (n+4) (n+4) cs.length (effs cs) cs.length (effs cs) (cs.length:Int) 0=_:=e
  rw[decide_eq_false (by omega),e,decide_eq_true h,List.drop_zero]
  cases cs.all effB <;>rfl
 ·rw[decide_eq_true (by omega),decide_eq_false h];rfl
theorem s_chainB_loop (n:Nat) (cs:List Eff) (hl:cs.length≤8):∀ (j i m:Nat),i+j=cs.length→j<m →
  f146.l0 (n+4) m cs.length (effs cs) (i:Int)=some (if (cs.drop i).all effB then Sum.inr (cs.length,effs cs) else Sum.inl false):=by
 intro j
 induction j with
 | zero =>
   intro i m hi hm
   obtain ⟨m,rfl⟩:∃ k,m=k+1:=⟨m - 1,by omega⟩
   rw[f146.l0,nlt_dec (by omega),List.drop_eq_nil_of_le (by omega)];rfl
 | succ j ih =>
   intro i m hi hm
   obtain ⟨m,rfl⟩:∃ k,m=k+1:=⟨m - 1,by omega⟩
   have h:i<cs.length:=by omega
   rw[f146.l0,lt_dec h,in_dec h,Int.toNat_natCast,okE h,all_drop h,decide_eq_true (show (cs.length:Int)≤8 by omega)]
   simp only[br_t,Bool.and_self,gd_t,kE h,gE h,nE h,lE h,s_effB n (eAt cs i),bd_s,wrap_succ (show i<9223372036854775807 by omega)]
   cases effB (eAt cs i)
   ·rfl
   ·simp only[Bool.not_true,br_f,Bool.true_and]
    exact ih (i+1) m (by omega) (by omega)
theorem s_chainB (n:Nat) (cs:List Eff) (hn:100<n):f146 (n+5) cs.length (effs cs)=some (chainB cs):=by
 rw[f146]
 unfold chainB
 by_cases h:cs.length≤8
 ·have e:=s_chainB_loop n cs h cs.length 0 (n+4) (by omega) (by omega)
  have e:f146.l0 (n+4) (n+4) cs.length (effs cs) 0=_:=e
  rw[e,decide_eq_true h,List.drop_zero]
  cases cs.all effB
  ·rfl
  ·simp only[if_true,bd_s,sm_r,Bool.true_and,decide_eq_true (show (cs.length:Int)≤8 by omega)]
 ·have e:f146.l0 (n+4) (n+4) cs.length (effs cs) 0=some (Sum.inr (cs.length,effs cs)):=by
   rw[show n+4=(n+3)+1 from rfl,f146.l0,decide_eq_true (show (0:Int)<(cs.length:Int) by omega),decide_eq_false (show ¬ (cs.length:Int)≤8 by omega)]
   rfl
  rw[e,decide_eq_false h]
  simp only[bd_s,sm_r,Bool.false_and,decide_eq_false (show ¬ (cs.length:Int)≤8 by omega)]
structure Strp where
 es:List Eff
 tn:Int
 pan:Nat
 mute:Bool
 solo:Bool
def stC (s:Strp):List T:=[.lst s.es.length (effs s.es),.int .i64 s.tn,.flt .f32 s.pan,.bool s.mute,.bool s.solo]
def strps (ss:List Strp):List T:=ss.flatMap stC
def sAt5 (ss:List Strp) (i:Nat):Strp:=ss.getD i ⟨[],0,0,false,false⟩
theorem st_get {c:Nat} (hc:c<5):∀ (ts:List Strp) (i:Nat),i<ts.length→(strps ts)[i * 5+c]?=(stC (sAt5 ts i))[c]?
 | [],i,h=>by simp at h
 | t::ts,0,_=>by
   show (stC t++strps ts)[0 * 5+c]?=_
   rw[List.getElem?_append_left (by simp[stC];omega),Nat.zero_mul,Nat.zero_add];rfl
 | t::ts,i+1,h=>by
   show (stC t++strps ts)[(i+1) * 5+c]?=_
   rw[List.getElem?_append_right (by simp[stC];omega),show (i+1) * 5+c - (stC t).length=i * 5+c by simp[stC];omega,st_get hc ts i (by simpa using h)]
   rfl
section
variable {ts:List Strp} {i:Nat} (h:i<ts.length)
include h
theorem okS5:okAt [.lst,.int .i64,.flt .f32,.bool,.bool] (strps ts) (i * 5+0)=true:=by
 have h0:=st_get (c:=0) (by decide) ts i h
 have h1:=st_get (c:=1) (by decide) ts i h
 have h2:=st_get (c:=2) (by decide) ts i h
 have h3:=st_get (c:=3) (by decide) ts i h
 have h4:=st_get (c:=4) (by decide) ts i h
 simp only[stC,List.getElem?_cons_zero,List.getElem?_cons_succ] at h0 h1 h2 h3 h4
 rw[Nat.add_zero] at h0
 simp[okAt,Nat.add_assoc,h0,h1,h2,h3,h4,isCK]
theorem nS5:nAt (strps ts) (i * 5+0)=(sAt5 ts i).es.length:=by unfold nAt;rw[st_get (c:=0) (by decide) ts i h];rfl
theorem lS5:lAt (strps ts) (i * 5+0)=effs (sAt5 ts i).es:=by unfold lAt;rw[st_get (c:=0) (by decide) ts i h];rfl
theorem tS5:iAt (strps ts) (i * 5+0+1)=(sAt5 ts i).tn:=by unfold iAt;rw[show i * 5+0+1=i * 5+1 from rfl,st_get (c:=1) (by decide) ts i h];rfl
theorem pS5:fAt (strps ts) (i * 5+0+1+1)=(sAt5 ts i).pan:=by unfold fAt;rw[show i * 5+0+1+1=i * 5+2 from rfl,st_get (c:=2) (by decide) ts i h];rfl
theorem mS5:bAt (strps ts) (i * 5+0+1+1+1)=(sAt5 ts i).mute:=by unfold bAt;rw[show i * 5+0+1+1+1=i * 5+3 from rfl,st_get (c:=3) (by decide) ts i h];rfl
theorem oS5:bAt (strps ts) (i * 5+0+1+1+1+1)=(sAt5 ts i).solo:=by unfold bAt;rw[show i * 5+0+1+1+1+1=i * 5+4 from rfl,st_get (c:=4) (by decide) ts i h];rfl
theorem st_drop:ts.drop i=sAt5 ts i::ts.drop (i+1):=by
 rw[List.drop_eq_getElem_cons h]
 simp[sAt5,List.getD,h]
theorem sAt5_mem:sAt5 ts i∈ts:=by
 have:sAt5 ts i=ts[i]:=by simp[sAt5,List.getD,h]
 rw[this];exact List.getElem_mem h
end
def panB (x:Nat):Bool:=fge .f32 x 0&&fle .f32 x 1065353216
def stB (s:Strp):Bool:=chainB s.es&&(decide (-2000≤s.tn∧s.tn≤2000)&&panB s.pan)
def clB (n:Nat) (c:Eff):Bool:=decide (0≤c.kind∧c.kind≤(n:Int) - 1)&&(decide (0≤c.len∧c.len≤256)&&decide (c.nums.length≤256))
def sessB (cl:List Eff) (ss:List Strp):Bool:=decide (1≤ss.length∧ss.length≤8)&&(decide (cl.length≤12)&&(ss.all stB&&cl.all (clB ss.length)))
theorem i_panB (n x:Nat):f144 (n+1) x=some (panB x):=by
 rw[f144];unfold panB;cases fge .f32 x 0 <;>rfl
theorem s_panB (n x:Nat):f178 (n+1) x=some (panB x):=by
 rw[f178];unfold panB;cases fge .f32 x 0 <;>rfl
theorem i_tenths (n:Nat) (t:Int):f143 (n+2) t=some (decide (-2000≤t∧t≤2000)):=by rw[f143,i_in];rfl
theorem i_count (n:Nat) (t:Int):f81 (n+2) t=some (decide (0≤t∧t≤256)):=by rw[f81,i_in];rfl
theorem i_index (n:Nat) (t:Int) (k:Nat) (hk:k≤1099511627776):f83 (n+2) t (k:Int)=some (decide (0≤t∧t≤(k:Int) - 1)):=by
 rw[f83,show IntKind.i64.wrap ((k:Int) - 1)=(k:Int) - 1 by rw[wrap64] <;>omega,i_in];rfl
theorem i_nodes (n:Nat) (t:Int):f89 (n+2) t=some (decide (1≤t∧t≤8)):=by rw[f89,i_in];rfl
theorem st_all {ss:List Strp} {i:Nat} (h:i<ss.length):(ss.drop i).all stB=(stB (sAt5 ss i)&&(ss.drop (i+1)).all stB):=by
 rw[st_drop h,List.all_cons]
theorem cl_all {cs:List Eff} {i n:Nat} (h:i<cs.length):(cs.drop i).all (clB n)=(clB n (eAt cs i)&&(cs.drop (i+1)).all (clB n)):=by
 rw[eff_drop h,List.all_cons]
theorem i_st_loop (n:Nat) (hn:100<n) (N:Nat) (ts:List T) (M:Nat) (us:List T) (ss:List Strp) (hl:ss.length≤100):∀ (j i m:Nat),i+j=ss.length→j<m →
  f101.l0 (n+5) m N ts M us ss.length (strps ss) (ss.length:Int) (i:Int)=some (if (ss.drop i).all stB then Sum.inr (N,ts,M,us) else Sum.inl false):=by
 intro j
 induction j with
 | zero =>
   intro i m hi hm
   obtain ⟨m,rfl⟩:∃ k,m=k+1:=⟨m - 1,by omega⟩
   rw[f101.l0,nlt_dec (by omega),List.drop_eq_nil_of_le (by omega)];rfl
 | succ j ih =>
   intro i m hi hm
   obtain ⟨m,rfl⟩:∃ k,m=k+1:=⟨m - 1,by omega⟩
   have h:i<ss.length:=by omega
   rw[f101.l0,lt_dec h,in_dec h,Int.toNat_natCast,okS5 h,st_all h]
   simp only[br_t,Bool.and_self,gd_t,nS5 h,lS5 h,tS5 h,pS5 h,i_chainB n (sAt5 ss i).es hn,i_tenths (n+3),i_panB (n+4),bd_s,wrap_succ (show i<9223372036854775807 by omega)]
   unfold stB
   cases chainB (sAt5 ss i).es
   ·rfl
   ·cases decide (-2000≤(sAt5 ss i).tn∧(sAt5 ss i).tn≤2000)
    ·rfl
    ·cases panB (sAt5 ss i).pan
     ·rfl
     ·simp only[Bool.not_true,br_f,Bool.true_and]
      exact ih (i+1) m (by omega) (by omega)
theorem i_cl_loop (n:Nat) (N:Nat) (ts:List T) (M:Nat) (us:List T) (hM:M≤1000) (cs:List Eff) (hl:cs.length≤100):∀ (j i m:Nat),i+j=cs.length→j<m →
  f101.l1 (n+2) m N ts M us cs.length (effs cs) (cs.length:Int) (i:Int)=some (if (cs.drop i).all (clB M) then Sum.inr () else Sum.inl false):=by
 intro j
 induction j with
 | zero =>
   intro i m hi hm
   obtain ⟨m,rfl⟩:∃ k,m=k+1:=⟨m - 1,by omega⟩
   rw[f101.l1,nlt_dec (by omega),List.drop_eq_nil_of_le (by omega)];rfl
 | succ j ih =>
   intro i m hi hm
   obtain ⟨m,rfl⟩:∃ k,m=k+1:=⟨m - 1,by omega⟩
   have h:i<cs.length:=by omega
   have e3:decide (((eAt cs i).nums.length:Int)≤256)=decide ((eAt cs i).nums.length≤256):=by rw[decide_eq_decide];omega
   rw[f101.l1,lt_dec h,in_dec h,Int.toNat_natCast,okE h,cl_all h]
   simp only[br_t,Bool.and_self,gd_t,kE h,gE h,nE h,lE h,i_index n (eAt cs i).kind M (by omega),i_count n,i_few,e3,bd_s,wrap_succ (show i<9223372036854775807 by omega)]
   unfold clB
   cases decide (0≤(eAt cs i).kind∧(eAt cs i).kind≤(M:Int) - 1)
   ·rfl
   ·cases decide (0≤(eAt cs i).len∧(eAt cs i).len≤256)
    ·rfl
    ·cases decide ((eAt cs i).nums.length≤256)
     ·rfl
     ·simp only[Bool.not_true,br_f,Bool.true_and]
      exact ih (i+1) m (by omega) (by omega)
theorem i_sessB (n:Nat) (cl:List Eff) (ss:List Strp) (hn:200<n):f101 (n+6) cl.length (effs cl) ss.length (strps ss)=some (sessB cl ss):=by
 rw[f101,i_sized (n+4)]
 simp only[bd_s,i_nodes (n+3)]
 unfold sessB
 by_cases h1:1≤ss.length∧ss.length≤8
 ·rw[decide_eq_true h1,decide_eq_true (show (1:Int)≤(ss.length:Int)∧(ss.length:Int)≤8 by omega)]
  by_cases h2:cl.length≤12
  ·rw[decide_eq_true h2,decide_eq_false (show ¬ (cl.length:Int)>12 by omega)]
   have e1:=i_st_loop n (by omega) cl.length (effs cl) ss.length (strps ss) ss (by omega) ss.length 0 (n+5) (by omega) (by omega)
   have e1:f101.l0 (n+5) (n+5) cl.length (effs cl) ss.length (strps ss) ss.length (strps ss) (ss.length:Int) 0=_:=e1
   have e2:=i_cl_loop (n+3) cl.length (effs cl) ss.length (strps ss) (by omega) cl (by omega) cl.length 0 (n+5) (by omega) (by omega)
   have e2:f101.l1 (n+5) (n+5) cl.length (effs cl) ss.length (strps ss) cl.length (effs cl) (cl.length:Int) 0=_:=e2
   simp only[Bool.not_true,br_f,e1,List.drop_zero,Bool.true_and]
   cases ss.all stB
   ·rfl
   ·simp only[if_true,bd_s,sm_r,e2,List.drop_zero,Bool.true_and]
    cases cl.all (clB ss.length) <;>rfl
  ·rw[decide_eq_false h2,decide_eq_true (show (cl.length:Int)>12 by omega)];rfl
 ·rw[decide_eq_false h1,decide_eq_false (show ¬ ((1:Int)≤(ss.length:Int)∧(ss.length:Int)≤8) by omega)];rfl
theorem s_strip1 (n:Nat) (a:Nat) (b:List T) (c:Int) (d:Nat) (e f:Bool) (g:Nat) (h:List T):∃ x y,f145 (n+1) a b c d e f g h=some (g,h,c,d,e,f,x,y):=by
 rw[f145];exact ⟨_,_,rfl⟩
theorem s_tracks1 (n:Nat) (hn:10<n) (c:Int) (d:Nat) (e f:Bool):f147 (n+2) 1 (setN (reps 1 [(T.lst 0 []),(T.int .i64 (0:Int)),(T.flt .f32 0),(T.bool false),(T.bool false)]) 0 [(T.lst 0 (reps 0 [(T.flt .f32 0)])),(T.int .i64 c),(T.flt .f32 d),(T.bool e),(T.bool f)])=some (decide (-2000≤c∧c≤2000)&&panB d):=by
 obtain ⟨n,rfl⟩:∃ k,n=k+2:=⟨n - 2,by omega⟩
 have hs:setN (reps 1 [(T.lst 0 []),(T.int .i64 (0:Int)),(T.flt .f32 0),(T.bool false),(T.bool false)]) 0 [(T.lst 0 (reps 0 [(T.flt .f32 0)])),(T.int .i64 c),(T.flt .f32 d),(T.bool e),(T.bool f)]=[(T.lst 0 []),(T.int .i64 c),(T.flt .f32 d),(T.bool e),(T.bool f)]:=rfl
 have l1:f147.l0 (n+2+1) (n+2+1) 1 [(T.lst 0 []),(T.int .i64 c),(T.flt .f32 d),(T.bool e),(T.bool f)] ((1:Nat):Int) 0=some (if decide (-2000≤c∧c≤2000)&&panB d then Sum.inr (1,[(T.lst 0 []),(T.int .i64 c),(T.flt .f32 d),(T.bool e),(T.bool f)]) else Sum.inl false):=by
  rw[f147.l0]
  have k0:decide ((0:Int)<((1:Nat):Int))=true:=rfl
  have k1:decide ((0:Int)≤0∧(0:Int)<((1:Nat):Int))=true:=rfl
  have k2:okAt [.lst,.int .i64,.flt .f32,.bool,.bool] [(T.lst 0 []),(T.int .i64 c),(T.flt .f32 d),(T.bool e),(T.bool f)] (Int.toNat 0 * 5+0)=true:=rfl
  have k3:nAt [(T.lst 0 []),(T.int .i64 c),(T.flt .f32 d),(T.bool e),(T.bool f)] (Int.toNat 0 * 5+0)=0:=rfl
  have k4:iAt [(T.lst 0 []),(T.int .i64 c),(T.flt .f32 d),(T.bool e),(T.bool f)] (Int.toNat 0 * 5+0+1)=c:=rfl
  have k5:fAt [(T.lst 0 []),(T.int .i64 c),(T.flt .f32 d),(T.bool e),(T.bool f)] (Int.toNat 0 * 5+0+1+1)=d:=rfl
  rw[k0,k1,k2,k3,k4,k5]
  simp only[br_t,Bool.and_self,gd_t,s_few,bd_s,s_in,s_panB]
  cases decide (-2000≤c∧c≤2000)
  ·rfl
  ·cases panB d
   ·rfl
   ·show f147.l0 (n+2+1) (n+2) 1 _ ((1:Nat):Int) 1=_
    rw[f147.l0];rfl
 rw[hs,f147,l1]
 cases decide (-2000≤c∧c≤2000)&&panB d <;>rfl
theorem s_st_loop (n:Nat) (hn:100<n) (N:Nat) (ts:List T) (i5:Int) (ss:List Strp) (hl:ss.length≤100):∀ (j i m:Nat),i+j=ss.length→j<m →
  f105.l0 (n+5) m N ts ss.length (strps ss) i5 (ss.length:Int) (i:Int)=some (if (ss.drop i).all stB then Sum.inr (N,ts,ss.length,strps ss,i5) else Sum.inl false):=by
 intro j
 induction j with
 | zero =>
   intro i m hi hm
   obtain ⟨m,rfl⟩:∃ k,m=k+1:=⟨m - 1,by omega⟩
   rw[f105.l0,nlt_dec (by omega),List.drop_eq_nil_of_le (by omega)];rfl
 | succ j ih =>
   intro i m hi hm
   obtain ⟨m,rfl⟩:∃ k,m=k+1:=⟨m - 1,by omega⟩
   have h:i<ss.length:=by omega
   rw[f105.l0,lt_dec h,in_dec h,Int.toNat_natCast,okS5 h,st_all h]
   simp only[br_t,Bool.and_self,gd_t,nS5 h,lS5 h,tS5 h,pS5 h,mS5 h,oS5 h]
   obtain ⟨x,y,e1⟩:=s_strip1 (n+4) (sAt5 ss i).es.length (effs (sAt5 ss i).es) (sAt5 ss i).tn (sAt5 ss i).pan (sAt5 ss i).mute (sAt5 ss i).solo 0 (reps 0 [(T.flt .f32 0)])
   rw[e1]
   have e2:=s_tracks1 (n+3) (by omega) (sAt5 ss i).tn (sAt5 ss i).pan (sAt5 ss i).mute (sAt5 ss i).solo
   simp only[bd_s,s_chainB n (sAt5 ss i).es hn,e2,wrap_succ (show i<9223372036854775807 by omega)]
   unfold stB
   cases chainB (sAt5 ss i).es
   ·rfl
   ·cases decide (-2000≤(sAt5 ss i).tn∧(sAt5 ss i).tn≤2000)&&panB (sAt5 ss i).pan
    ·rfl
    ·simp only[Bool.not_true,br_f,Bool.true_and]
     exact ih (i+1) m (by omega) (by omega)
theorem s_cl_loop (n:Nat) (N:Nat) (ts:List T) (M:Nat) (hM:M≤1000) (cs:List Eff) (hl:cs.length≤100):∀ (j i m:Nat),i+j=cs.length→j<m →
  f105.l1 (n+2) m cs.length (effs cs) N ts (M:Int) (cs.length:Int) (i:Int)=some (if (cs.drop i).all (clB M) then Sum.inr () else Sum.inl false):=by
 intro j
 induction j with
 | zero =>
   intro i m hi hm
   obtain ⟨m,rfl⟩:∃ k,m=k+1:=⟨m - 1,by omega⟩
   rw[f105.l1,nlt_dec (by omega),List.drop_eq_nil_of_le (by omega)];rfl
 | succ j ih =>
   intro i m hi hm
   obtain ⟨m,rfl⟩:∃ k,m=k+1:=⟨m - 1,by omega⟩
   have h:i<cs.length:=by omega
   have e3:decide (((eAt cs i).nums.length:Int)≤256)=decide ((eAt cs i).nums.length≤256):=by rw[decide_eq_decide];omega
   rw[f105.l1,lt_dec h,in_dec h,Int.toNat_natCast,okE h,cl_all h,show IntKind.i64.wrap ((M:Int) - 1)=(M:Int) - 1 by rw[wrap64] <;>omega]
   simp only[br_t,Bool.and_self,gd_t,kE h,gE h,nE h,lE h,s_in (n+1),s_few,e3,bd_s,wrap_succ (show i<9223372036854775807 by omega)]
   unfold clB
   cases decide (0≤(eAt cs i).kind∧(eAt cs i).kind≤(M:Int) - 1)
   ·rfl
   ·cases decide (0≤(eAt cs i).len∧(eAt cs i).len≤256)
    ·rfl
    ·cases decide ((eAt cs i).nums.length≤256)
     ·rfl
     ·simp only[Bool.not_true,br_f,Bool.true_and]
      exact ih (i+1) m (by omega) (by omega)
theorem s_sessB (n:Nat) (cl:List Eff) (ss:List Strp) (hn:200<n):f105 (n+6) cl.length (effs cl) ss.length (strps ss)=some (sessB cl ss):=by
 rw[f105]
 simp only[bd_s,s_in (n+4)]
 unfold sessB
 by_cases h1:1≤ss.length∧ss.length≤8
 ·rw[decide_eq_true h1,decide_eq_true (show (1:Int)≤(ss.length:Int)∧(ss.length:Int)≤8 by omega)]
  by_cases h2:cl.length≤12
  ·rw[decide_eq_true h2,decide_eq_false (show ¬ (cl.length:Int)>12 by omega)]
   have e1:=s_st_loop n (by omega) cl.length (effs cl) (ss.length:Int) ss (by omega) ss.length 0 (n+5) (by omega) (by omega)
   have e1:f105.l0 (n+5) (n+5) cl.length (effs cl) ss.length (strps ss) (ss.length:Int) (ss.length:Int) 0=_:=e1
   have e2:=s_cl_loop (n+3) ss.length (strps ss) ss.length (by omega) cl (by omega) cl.length 0 (n+5) (by omega) (by omega)
   have e2:f105.l1 (n+5) (n+5) cl.length (effs cl) ss.length (strps ss) (ss.length:Int) (cl.length:Int) 0=_:=e2
   simp only[Bool.not_true,br_f,e1,List.drop_zero,Bool.true_and]
   cases ss.all stB
   ·rfl
   ·simp only[if_true,bd_s,sm_r,e2,List.drop_zero,Bool.true_and]
    cases cl.all (clB ss.length) <;>rfl
  ·rw[decide_eq_false h2,decide_eq_true (show (cl.length:Int)>12 by omega)];rfl
 ·rw[decide_eq_false h1,decide_eq_false (show ¬ ((1:Int)≤(ss.length:Int)∧(ss.length:Int)≤8) by omega)];rfl
structure SOk (cl:List Eff) (ss:List Strp):Prop where
 n:1≤ss.length∧ss.length≤8
 c:cl.length≤12
 s:∀ s∈ss,chainB s.es=true∧(-2000≤s.tn∧s.tn≤2000)∧panB s.pan=true
 k:∀ c∈cl,(0≤c.kind∧c.kind≤(ss.length:Int) - 1)∧(0≤c.len∧c.len≤256)∧c.nums.length≤256
theorem sess_ok {cl:List Eff} {ss:List Strp} (h:sessB cl ss=true):SOk cl ss:=by
 unfold sessB at h
 simp only[Bool.and_eq_true,decide_eq_true_eq,List.all_eq_true] at h
 obtain ⟨h1,h2,h3,h4⟩:=h
 refine ⟨h1,h2,fun s hs => ?_,fun c hc => ?_⟩
 ·have:=h3 s hs
  unfold stB at this
  simp only[Bool.and_eq_true,decide_eq_true_eq] at this
  exact ⟨this.1,this.2.1,this.2.2⟩
 ·have:=h4 c hc
  unfold clB at this
  simp only[Bool.and_eq_true,decide_eq_true_eq] at this
  exact ⟨this.1,this.2.1,this.2.2⟩
structure GoodS (cl:List Eff) (ss:List Strp):Prop where
 c:∀ c∈cl,GoodE c
 s:∀ s∈ss,(∀ e∈s.es,GoodE e)∧GoodI .i64 s.tn∧W32 s.pan
theorem strip_efs {cl:List Eff} {ss:List Strp} (h:SOk cl ss) (hg:GoodS cl ss) {s:Strp} (hs:s∈ss):∃ es:List Ef,effL es=s.es∧(∀ e∈es,e.Ok)∧es.length≤8:=by
 have h1:=(h.s s hs).1
 unfold chainB at h1
 simp only[Bool.and_eq_true,decide_eq_true_eq] at h1
 obtain ⟨es,e1,e2⟩:=efs_of h1.2 (hg.s s hs).1
 exact ⟨es,e1,e2,by rw[← effL_length,e1];exact h1.1⟩
theorem copy_loop (n:Nat) (xs:List Nat) (hx:xs.length≤1048576):∀ (j i m:Nat) (ys:List Nat),ys.length=xs.length→i+j=xs.length→j<m →
  f181.l0 n m xs.length (fls .f32 xs) xs.length (fls .f32 (xs.take i++ys.drop i)) (i:Int)=some (xs.length,fls .f32 xs):=by
 intro j
 induction j with
 | zero =>
   intro i m ys hl hi hm
   obtain ⟨m,rfl⟩:∃ k,m=k+1:=⟨m - 1,by omega⟩
   rw[f181.l0,nlt_dec (by omega)]
   simp only[br]
   rw[List.take_of_length_le (by omega),List.drop_eq_nil_of_le (by omega),List.append_nil]
 | succ j ih =>
   intro i m ys hl hi hm
   obtain ⟨m,rfl⟩:∃ k,m=k+1:=⟨m - 1,by omega⟩
   have hlt:i<xs.length:=by omega
   rw[f181.l0,lt_dec hlt,in_dec hlt,Int.toNat_natCast,okAt_fls hlt,wrap_succ (by omega)]
   have hlen:Nat.ble (i+1) (fls .f32 (xs.take i++ys.drop i)).length=true:=by
    rw[Nat.ble_eq,fls_length];simp;omega
   rw[hlen]
   simp only[br,gd,Bool.and_self]
   rw[setN_one,fAt_fls,set_fls]
   have:xs.getD i 0=xs[i]:=by simp[List.getD,hlt]
   rw[this,take_set_drop hlt hl]
   exact ih (i+1) m ys hl (by omega) (by omega)
theorem copied (n:Nat) (xs:List Nat) (hx:xs.length≤1048576) (hn:xs.length<n):f181 (n+1) xs.length (fls .f32 xs)=some (xs.length,fls .f32 xs):=by
 rw[f181]
 have h:=copy_loop n xs hx xs.length 0 n (List.replicate xs.length 0) (by simp) (by omega) hn
 rw[List.take_zero,List.drop_zero,List.nil_append] at h
 have e:decide ((0:Int)≤((xs.length:Nat):Int)∧((xs.length:Nat):Int)≤(2147483648:Int))=true:=by simp;omega
 rw[reps_fls,e]
 simp only[gd]
 rw[show ((0:Nat):Int)=0 from rfl] at h
 rw[h];rfl
theorem same_self (n y:Nat):f185 (n+1) y y=some true:=by
 unfold f185
 simp only[fne_feq]
 cases h:feq FloatKind.f64 y y
 ·simp[br]
 ·cases h0:feq FloatKind.f64 y 0 <;>simp[br]
theorem eq_loop (n:Nat) (xs:List Nat) (hx:xs.length≤2147483648):∀ (j i m:Nat),i+j=xs.length→j<m →
  f183.l0 (n+1) m xs.length (fls .f32 xs) xs.length (fls .f32 xs) (i:Int)=some (Sum.inr ()):=by
 intro j
 induction j with
 | zero =>
   intro i m hi hm
   obtain ⟨m,rfl⟩:∃ k,m=k+1:=⟨m - 1,by omega⟩
   rw[f183.l0,nlt_dec (by omega)]
   rfl
 | succ j ih =>
   intro i m hi hm
   obtain ⟨m,rfl⟩:∃ k,m=k+1:=⟨m - 1,by omega⟩
   have hlt:i<xs.length:=by omega
   rw[f183.l0,lt_dec hlt,in_dec hlt,Int.toNat_natCast,okAt_fls hlt,wrap_succ (by omega),fltToFlt_wide]
   simp only[br,gd,bd,Bool.and_self,same_self,Bool.not_true]
   exact ih (i+1) m (by omega) (by omega)
theorem eq_self (n:Nat) (xs:List Nat) (hx:xs.length≤2147483648) (hn:xs.length<n+1):f183 (n+2) xs.length (fls .f32 xs) xs.length (fls .f32 xs)=some true:=by
 rw[f183]
 have h:=eq_loop n xs hx xs.length 0 (n+1) (by omega) hn
 rw[show ((0:Nat):Int)=0 from rfl] at h
 rw[h,show (((xs.length:Nat):Int) != ((xs.length:Nat):Int))=false by simp]
 rfl
theorem mark32_loop (n:Nat) (xs:List Nat) (hx:xs.length≤2147483648) (s:Int) (hs:0≤s) (hs':s≤1099511627776):∀ (j i m:Nat),i+j=xs.length→j<m →
  f156.l0 n m xs.length (fls .f32 ((marksF .f32 s xs.length).take i++xs.drop i)) (s+(i:Int)) (i:Int)=some (xs.length,fls .f32 (marksF .f32 s xs.length),s+(xs.length:Int)):=by
 intro j
 induction j with
 | zero =>
   intro i m hi hm
   obtain ⟨m,rfl⟩:∃ k,m=k+1:=⟨m - 1,by omega⟩
   have hi:i=xs.length:=by omega
   subst hi
   rw[f156.l0,nlt_dec (by omega)]
   simp only[br]
   rw[List.take_of_length_le (by rw[marksF_length];omega),List.drop_eq_nil_of_le (by omega),List.append_nil]
 | succ j ih =>
   intro i m hi hm
   obtain ⟨m,rfl⟩:∃ k,m=k+1:=⟨m - 1,by omega⟩
   have hlt:i<xs.length:=by omega
   have hlt':i<(marksF .f32 s xs.length).length:=by rw[marksF_length];exact hlt
   have hlen:Nat.ble (i+1) (fls .f32 ((marksF .f32 s xs.length).take i++xs.drop i)).length=true:=by
    apply le_ble
    rw[fls_length,List.length_append,List.length_take,List.length_drop,marksF_length];omega
   rw[f156.l0,lt_dec hlt,in_dec hlt,Int.toNat_natCast,wrap_succ (by omega),hlen]
   simp only[br,gd]
   rw[setN_one,set_fls,show IntKind.i64.wrap (s+(i:Int)+1)=s+((i+1:Nat):Int) by rw[wrap64] <;>omega,← marksF_at hlt',take_set_drop hlt' (by rw[marksF_length])]
   exact ih (i+1) m (by omega) (by omega)
theorem mark32 (n:Nat) (xs:List Nat) (hx:xs.length≤2147483648) (s:Int) (hs:0≤s) (hs':s≤1099511627776) (hn:xs.length<n) :
  f156 (n+1) xs.length (fls .f32 xs) s=some (s+(xs.length:Int),xs.length,fls .f32 (marksF .f32 s xs.length)):=by
 rw[f156]
 have h:=mark32_loop n xs hx s hs hs' xs.length 0 n (by omega) hn
 rw[List.take_zero,List.drop_zero,List.nil_append,show ((0:Nat):Int)=0 from rfl,Int.add_zero] at h
 rw[h];rfl
theorem held32_loop (n l:Nat) (hx:l≤2147483648) (s:Int) (hs:0≤s) (hs':s≤1099511627776):∀ (j i m:Nat),i+j=l→j<m →
  f158.l0 n m l (fls .f32 (marksF .f32 s l)) (s+(i:Int)) (i:Int)=some (Sum.inr (s+(l:Int))):=by
 intro j
 induction j with
 | zero =>
   intro i m hi hm
   obtain ⟨m,rfl⟩:∃ k,m=k+1:=⟨m - 1,by omega⟩
   have hi:i=l:=by omega
   subst hi
   rw[f158.l0,nlt_dec (by omega)]
   rfl
 | succ j ih =>
   intro i m hi hm
   obtain ⟨m,rfl⟩:∃ k,m=k+1:=⟨m - 1,by omega⟩
   have hlt:i<l:=by omega
   rw[f158.l0,lt_dec hlt,in_dec hlt,Int.toNat_natCast,wrap_succ (by omega),okAt_fls (by rw[marksF_length];exact hlt),fAt_fls,marksF_get hlt,nearest_fne,
    show IntKind.i64.wrap (s+(i:Int)+1)=s+((i+1:Nat):Int) by rw[wrap64] <;>omega]
   simp only[br,gd,Bool.and_self]
   exact ih (i+1) m (by omega) (by omega)
theorem held32 (n l:Nat) (hx:l≤2147483648) (s:Int) (hs:0≤s) (hs':s≤1099511627776) (hn:l<n) :
  f158 (n+1) l (fls .f32 (marksF .f32 s l)) s=some (s+(l:Int)):=by
 rw[f158]
 have h:=held32_loop n l hx s hs hs' l 0 n (by omega) hn
 rw[show ((0:Nat):Int)=0 from rfl,Int.add_zero] at h
 rw[h];rfl
theorem rows_set {α:Type} {f:α→List T} {w:Nat} (hf:∀ x,(f x).length=w) (d:α):∀ (ts:List α) (i c:Nat) (v:T) (y:α),i<ts.length→c<w→f y=(f (ts.getD i d)).set c v→(ts.flatMap f).set (i * w+c) v=(ts.set i y).flatMap f
 | [],i,c,v,y,h,_,_=>by simp at h
 | t::ts,0,c,v,y,_,hc,hy=>by
   simp only[List.flatMap_cons,List.set_cons_zero,Nat.zero_mul,Nat.zero_add]
   rw[List.set_append_left _ _ (by rw[hf];exact hc),hy];rfl
 | t::ts,i+1,c,v,y,h,hc,hy=>by
   simp only[List.flatMap_cons,List.set_cons_succ]
   have e:(i+1) * w+c=w+(i * w+c):=by rw[Nat.add_mul];omega
   rw[List.set_append_right _ _ (by rw[hf,e];omega),hf,show (i+1) * w+c - w=i * w+c by omega,rows_set hf d ts i c v y (by simpa using h) hc (by simpa using hy)]
theorem effC_length (e:Eff):(effC e).length=3:=rfl
theorem stC_length (s:Strp):(stC s).length=5:=rfl
theorem effs_length (ts:List Eff):(effs ts).length=3 * ts.length:=by
 unfold effs
 induction ts with
 | nil=>rfl
 | cons t ts ih=>rw[List.flatMap_cons,List.length_append,ih,effC_length,List.length_cons];omega
theorem strps_length (ts:List Strp):(strps ts).length=5 * ts.length:=by
 unfold strps
 induction ts with
 | nil=>rfl
 | cons t ts ih=>rw[List.flatMap_cons,List.length_append,ih,stC_length,List.length_cons];omega
theorem eff_row {ts:List Eff} {i:Nat} (h:i<ts.length) (e:Eff):setN (effs ts) (i * 3+0) [.int .i64 e.kind,.int .i64 e.len,.lst e.nums.length (fls .f32 e.nums)]=effs (ts.set i e):=by
 show (((effs ts).set (i * 3+0) _).set (i * 3+0+1) _).set (i * 3+0+1+1) _=_
 unfold effs
 rw[rows_set effC_length ⟨5,0,[]⟩ ts i 0 (.int .i64 e.kind) ⟨e.kind,(eAt ts i).len,(eAt ts i).nums⟩ h (by decide) rfl,
  show i * 3+0+1=i * 3+1 from rfl,rows_set effC_length ⟨5,0,[]⟩ _ i 1 (.int .i64 e.len) ⟨e.kind,e.len,(eAt ts i).nums⟩ (by simpa using h) (by decide) (by simp[List.getD,h];rfl),
  show i * 3+1+1=i * 3+2 from rfl,rows_set effC_length ⟨5,0,[]⟩ _ i 2 (.lst e.nums.length (fls .f32 e.nums)) e (by simpa using h) (by decide) (by simp[List.getD,h];rfl)]
 simp
theorem st_row {ts:List Strp} {i:Nat} (h:i<ts.length) (s:Strp):setN (strps ts) (i * 5+0) [.lst s.es.length (effs s.es),.int .i64 s.tn,.flt .f32 s.pan,.bool s.mute,.bool s.solo]=strps (ts.set i s):=by
 show (((((strps ts).set (i * 5+0) _).set (i * 5+0+1) _).set (i * 5+0+1+1) _).set (i * 5+0+1+1+1) _).set (i * 5+0+1+1+1+1) _=_
 unfold strps
 rw[rows_set stC_length ⟨[],0,0,false,false⟩ ts i 0 (.lst s.es.length (effs s.es)) ⟨s.es,(sAt5 ts i).tn,(sAt5 ts i).pan,(sAt5 ts i).mute,(sAt5 ts i).solo⟩ h (by decide) rfl,
  show i * 5+0+1=i * 5+1 from rfl,rows_set stC_length ⟨[],0,0,false,false⟩ _ i 1 (.int .i64 s.tn) ⟨s.es,s.tn,(sAt5 ts i).pan,(sAt5 ts i).mute,(sAt5 ts i).solo⟩ (by simpa using h) (by decide) (by simp[List.getD,h];rfl),
  show i * 5+1+1=i * 5+2 from rfl,rows_set stC_length ⟨[],0,0,false,false⟩ _ i 2 (.flt .f32 s.pan) ⟨s.es,s.tn,s.pan,(sAt5 ts i).mute,(sAt5 ts i).solo⟩ (by simpa using h) (by decide) (by simp[List.getD,h];rfl),
  show i * 5+2+1=i * 5+3 from rfl,rows_set stC_length ⟨[],0,0,false,false⟩ _ i 3 (.bool s.mute) ⟨s.es,s.tn,s.pan,s.mute,(sAt5 ts i).solo⟩ (by simpa using h) (by decide) (by simp[List.getD,h];rfl),
  show i * 5+3+1=i * 5+4 from rfl,rows_set stC_length ⟨[],0,0,false,false⟩ _ i 4 (.bool s.solo) s (by simpa using h) (by decide) (by simp[List.getD,h];rfl)]
 simp
theorem reps_effs (n:Nat):reps n [(T.int .i64 (0:Int)),(T.int .i64 (0:Int)),(T.lst 0 [])]=effs (List.replicate n ⟨0,0,[]⟩):=by
 induction n with
 | zero=>rfl
 | succ n ih=>rw[List.replicate_succ,show effs (⟨0,0,[]⟩::List.replicate n ⟨0,0,[]⟩)=effC ⟨0,0,[]⟩++effs (List.replicate n ⟨0,0,[]⟩) from rfl,← ih];rfl
theorem reps_strps (n:Nat):reps n [(T.lst 0 []),(T.int .i64 (0:Int)),(T.flt .f32 0),(T.bool false),(T.bool false)]=strps (List.replicate n ⟨[],0,0,false,false⟩):=by
 induction n with
 | zero=>rfl
 | succ n ih=>rw[List.replicate_succ,show strps (⟨[],0,0,false,false⟩::List.replicate n ⟨[],0,0,false,false⟩)=stC ⟨[],0,0,false,false⟩++strps (List.replicate n ⟨[],0,0,false,false⟩) from rfl,← ih];rfl
def szE:List Eff→Nat
 | []=>0
 | e::es=>1+e.nums.length+szE es
def szSt:List Strp→Nat
 | []=>0
 | s::ss=>1+szE s.es+szSt ss
theorem szE_len:∀ (es:List Eff),es.length≤szE es
 | []=>Nat.le_refl _
 | e::es=>by have:=szE_len es;simp only[List.length_cons,szE];omega
theorem szE_num:∀ (es:List Eff) (e:Eff),e∈es→e.nums.length≤szE es
 | e::es,f,h=>by
   rcases List.mem_cons.1 h with rfl | h
   ·simp only[szE];omega
   ·have:=szE_num es f h;simp only[szE];omega
theorem szSt_len:∀ (es:List Strp),es.length≤szSt es
 | []=>Nat.le_refl _
 | e::es=>by have:=szSt_len es;simp only[List.length_cons,szSt];omega
theorem szSt_es:∀ (es:List Strp) (s:Strp),s∈es→szE s.es≤szSt es
 | e::es,f,h=>by
   rcases List.mem_cons.1 h with rfl | h
   ·simp only[szSt];omega
   ·have:=szSt_es es f h;simp only[szSt];omega
def nmE:List Eff→Nat
 | []=>0
 | e::es=>e.nums.length+nmE es
theorem szE_nm:∀ (es:List Eff),szE es=es.length+nmE es
 | []=>rfl
 | e::es=>by rw[szE,szE_nm es,nmE,List.length_cons];omega
def nmSt:List Strp→Nat
 | []=>0
 | s::ss=>szE s.es+nmSt ss
theorem szSt_nm:∀ (es:List Strp),szSt es=es.length+nmSt es
 | []=>rfl
 | e::es=>by rw[szSt,szSt_nm es,nmSt,List.length_cons];omega
def leftM (left:Int) (k:Nat):Int:=if (k:Int)≤left then left - k else -1
theorem sz32 (n:Nat) (xs:List Nat) (hx:xs.length≤9223372036854775807) (left:Int) (h0:0≤left) (h1:left≤1048576):f179 (n+1) xs.length (fls .f32 xs) left=some (leftM left xs.length):=by
 rw[f179,show IntKind.i64.wrap (left - (xs.length:Int))=left - (xs.length:Int) by rw[wrap64] <;>omega]
 unfold leftM
 by_cases h:(xs.length:Int)≤left
 ·rw[decide_eq_false (by omega),if_pos h];rfl
 ·rw[decide_eq_true (by omega),if_neg h];rfl
theorem leftM_neg {left:Int} {k:Nat} (h0:0≤left):decide (leftM left k<0) = !decide ((k:Int)≤left):=by
 unfold leftM
 split
 ·rename_i h;rw[decide_eq_true h];exact decide_eq_false (by omega)
 ·rename_i h;rw[decide_eq_false h];rfl
def marksE:Int→List Eff→List Eff
 | _,[]=>[]
 | s,e::es=>⟨s,s+1,marksF .f32 (s+2) e.nums.length⟩::marksE (s+2+(e.nums.length:Int)) es
theorem marksE_length:∀ (es:List Eff) (s:Int),(marksE s es).length=es.length
 | [],_=>rfl
 | e::es,s=>by simp[marksE,marksE_length es]
theorem sz1_e (n:Nat) (e:Eff) (hx:e.nums.length≤9223372036854775807) (left:Int) (h0:0≤left) (h1:left≤1048576):f195 (n+2) e.kind e.len e.nums.length (fls .f32 e.nums) left=some (leftM left e.nums.length):=by
 rw[f195,sz32 n e.nums hx left h0 h1]
 simp only[bd_s,leftM_neg h0]
 by_cases h:(e.nums.length:Int)≤left
 ·rw[decide_eq_true h];rfl
 ·rw[decide_eq_false h];unfold leftM;rw[if_neg h];rfl
theorem szl_e (n:Nat) (es:List Eff) (hx:∀ e∈es,e.nums.length≤9223372036854775807) (hl:es.length≤1048576):∀ (j i m:Nat) (left:Int),0≤left→left≤1048576→i+j=es.length→j<m →
  f180.l0 (n+2) m es.length (effs es) left (i:Int)=some (if (nmE (es.drop i):Int)≤left then Sum.inr (left - (nmE (es.drop i):Int)) else Sum.inl (-1)):=by
 intro j
 induction j with
 | zero =>
   intro i m left h0 h1 hi hm
   obtain ⟨m,rfl⟩:∃ k,m=k+1:=⟨m - 1,by omega⟩
   rw[f180.l0,nlt_dec (by omega),List.drop_eq_nil_of_le (by omega)]
   simp[br,nmE,h0]
 | succ j ih =>
   intro i m left h0 h1 hi hm
   obtain ⟨m,rfl⟩:∃ k,m=k+1:=⟨m - 1,by omega⟩
   have h:i<es.length:=by omega
   have e1:=sz1_e n (eAt es i) (hx _ (eAt_mem h)) left h0 h1
   rw[f180.l0,lt_dec h,in_dec h,Int.toNat_natCast,okE h,eff_drop h,nmE]
   simp only[br_t,Bool.and_self,gd_t,kE h,gE h,nE h,lE h,e1,bd_s,leftM_neg h0,wrap_succ (show i<9223372036854775807 by omega)]
   by_cases hc:((eAt es i).nums.length:Int)≤left
   ·rw[decide_eq_true hc]
    simp only[Bool.not_true,br_f]
    have hL:leftM left (eAt es i).nums.length=left - ((eAt es i).nums.length:Int):=by unfold leftM;rw[if_pos hc]
    rw[hL,ih (i+1) m _ (by omega) (by omega) (by omega) (by omega)]
    congr 1
    by_cases h2:(nmE (es.drop (i+1)):Int)≤left - ((eAt es i).nums.length:Int)
    ·rw[if_pos h2,if_pos (by omega)];congr 1;omega
    ·rw[if_neg h2,if_neg (by omega)]
   ·rw[decide_eq_false hc,if_neg (by omega)];rfl
theorem szs_e (n:Nat) (es:List Eff) (hx:∀ e∈es,e.nums.length≤9223372036854775807) (hx2:es.length≤9223372036854775807) (left:Int) (h0:0≤left) (h1:left≤1048576) (hn:1048577<n) :
  f180 (n+3) es.length (effs es) left=some (leftM left (szE es)):=by
 rw[f180,show IntKind.i64.wrap (left - (es.length:Int))=left - (es.length:Int) by rw[wrap64] <;>omega,szE_nm]
 unfold leftM
 by_cases h:(es.length:Int)≤left
 ·have e:=szl_e n es hx (by omega) es.length 0 (n+2) (left - (es.length:Int)) (by omega) (by omega) (by omega) (by omega)
  have e:f180.l0 (n+2) (n+2) es.length (effs es) (left - (es.length:Int)) 0=_:=e
  rw[decide_eq_false (by omega),e,List.drop_zero]
  by_cases h2:(nmE es:Int)≤left - (es.length:Int)
  ·rw[if_pos h2,if_pos (by omega)]
   simp only[br_f,bd_s,sm_r]
   congr 1;omega
  ·rw[if_neg h2,if_neg (by omega)];rfl
 ·rw[decide_eq_true (by omega),if_neg (by omega)];rfl
theorem to1_e (n:Nat) (e:Eff) (hx:e.nums.length≤1048576) (hn:1048576<n):f196 (n+2) e.kind e.len e.nums.length (fls .f32 e.nums)=some (e.kind,e.len,e.nums.length,fls .f32 e.nums):=by
 rw[f196,copied n e.nums hx (by omega)];rfl
theorem tol_e (n:Nat) (es:List Eff) (hx:∀ e∈es,e.nums.length≤1048576) (hl:es.length≤1048576) (hn:1048576<n):∀ (j i m:Nat) (ys:List Eff),ys.length=es.length→i+j=es.length→j<m →
  f182.l0 (n+2) m es.length (effs es) es.length (effs (es.take i++ys.drop i)) (i:Int)=some (es.length,effs es):=by
 intro j
 induction j with
 | zero =>
   intro i m ys hy hi hm
   obtain ⟨m,rfl⟩:∃ k,m=k+1:=⟨m - 1,by omega⟩
   rw[f182.l0,nlt_dec (by omega),List.take_of_length_le (by omega),List.drop_eq_nil_of_le (by omega),List.append_nil];rfl
 | succ j ih =>
   intro i m ys hy hi hm
   obtain ⟨m,rfl⟩:∃ k,m=k+1:=⟨m - 1,by omega⟩
   have h:i<es.length:=by omega
   have hlen:(es.take i++ys.drop i).length=es.length:=by rw[List.length_append,List.length_take,List.length_drop];omega
   have h':i<(es.take i++ys.drop i).length:=by omega
   have hb:Nat.ble (i * 3+0+3) (effs (es.take i++ys.drop i)).length=true:=by rw[effs_length,hlen];exact le_ble (by omega)
   have hset:(es.take i++ys.drop i).set i (eAt es i)=es.take (i+1)++ys.drop (i+1):=by
    have:eAt es i=es[i]:=by simp[eAt,List.getD,h]
    rw[this];exact take_set_drop h hy
   rw[f182.l0,lt_dec h,in_dec h,Int.toNat_natCast,okE h]
   simp only[br_t,Bool.and_self,gd_t,kE h,gE h,nE h,lE h,to1_e n (eAt es i) (hx _ (eAt_mem h)) hn,bd_s,hb,eff_row h' (eAt es i),hset,wrap_succ (show i<9223372036854775807 by omega)]
   exact ih (i+1) m ys hy (by omega) (by omega)
theorem tos_e (n:Nat) (es:List Eff) (hx:∀ e∈es,e.nums.length≤1048576) (hl:es.length≤1048576) (hn:1048576<n):f182 (n+3) es.length (effs es)=some (es.length,effs es):=by
 have e:=tol_e n es hx hl hn es.length 0 (n+2) (List.replicate es.length ⟨0,0,[]⟩) (by simp) (by omega) (by omega)
 rw[List.take_zero,List.drop_zero,List.nil_append] at e
 have e:f182.l0 (n+2) (n+2) es.length (effs es) es.length (effs (List.replicate es.length ⟨0,0,[]⟩)) 0=_:=e
 rw[f182,decide_eq_true (show (0:Int)≤(es.length:Int)∧(es.length:Int)≤2147483648 by omega),reps_effs]
 simp only[gd_t,e,bd_s]
theorem eq1_e (n:Nat) (e:Eff) (hx:e.nums.length≤1048576) (hn:1048576<n):f197 (n+3) e.kind e.len e.nums.length (fls .f32 e.nums) e.kind e.len e.nums.length (fls .f32 e.nums)=some true:=by
 rw[f197,eq_self n e.nums (by omega) (by omega)]
 simp only[bne_self_eq_false,br_f,bd_s,Bool.not_true]
theorem eql_e (n:Nat) (es:List Eff) (hx:∀ e∈es,e.nums.length≤1048576) (hl:es.length≤1048576) (hn:1048576<n):∀ (j i m:Nat),i+j=es.length→j<m →
  f184.l0 (n+3) m es.length (effs es) es.length (effs es) (i:Int)=some (Sum.inr ()):=by
 intro j
 induction j with
 | zero =>
   intro i m hi hm
   obtain ⟨m,rfl⟩:∃ k,m=k+1:=⟨m - 1,by omega⟩
   rw[f184.l0,nlt_dec (by omega)];rfl
 | succ j ih =>
   intro i m hi hm
   obtain ⟨m,rfl⟩:∃ k,m=k+1:=⟨m - 1,by omega⟩
   have h:i<es.length:=by omega
   rw[f184.l0,lt_dec h,in_dec h,Int.toNat_natCast,okE h]
   simp only[br_t,Bool.and_self,gd_t,kE h,gE h,nE h,lE h,eq1_e n (eAt es i) (hx _ (eAt_mem h)) hn,bd_s,Bool.not_true,br_f,wrap_succ (show i<9223372036854775807 by omega)]
   exact ih (i+1) m (by omega) (by omega)
theorem eqs_e (n:Nat) (es:List Eff) (hx:∀ e∈es,e.nums.length≤1048576) (hl:es.length≤1048576) (hn:1048576<n):f184 (n+4) es.length (effs es) es.length (effs es)=some true:=by
 have e:=eql_e n es hx hl hn es.length 0 (n+3) (by omega) (by omega)
 have e:f184.l0 (n+3) (n+3) es.length (effs es) es.length (effs es) 0=_:=e
 rw[f184]
 simp only[bne_self_eq_false,br_f,e,bd_s,sm_r]
theorem mkl_e (n:Nat) (hn:1048576<n):∀ (zs p:List Eff) (s:Int) (m:Nat),(∀ e∈zs,e.nums.length≤1048576)→0≤s→s+2 * (zs.length:Int)+(nmE zs:Int)≤1099511627776→p.length+zs.length≤1048576→zs.length<m →
  f157.l0 (n+1) m (p++zs).length (effs (p++zs)) s (p.length:Int)=some ((p++zs).length,effs (p++marksE s zs),s+2 * (zs.length:Int)+(nmE zs:Int)):=by
 intro zs
 induction zs with
 | nil =>
   intro p s m _ _ _ _ hm
   obtain ⟨m,rfl⟩:∃ k,m=k+1:=⟨m - 1,by simp at hm;omega⟩
   rw[f157.l0,lt_end]
   simp[br,marksE,nmE]
 | cons z zs ih =>
   intro p s m hx h0 h1 hp hm
   obtain ⟨m,rfl⟩:∃ k,m=k+1:=⟨m - 1,by simp at hm;omega⟩
   simp only[nmE,List.length_cons] at h1
   have hz:=hx z (by simp)
   have h:p.length<(p++z::zs).length:=by simp
   have hat:eAt (p++z::zs) p.length=z:=by simp[eAt,List.getD]
   have hlen:∀ y,(p++y::zs).length=(p++z::zs).length:=fun y=>by simp
   have hb:∀ (y:Eff) (c:Nat),c<3→Nat.ble (p.length * 3+c+1) (effs (p++y::zs)).length=true:=fun y c hc=>by
    rw[effs_length];apply le_ble;simp;omega
   have st:∀ (y z':Eff) (c:Nat) (v:T),c<3→effC z'=(effC y).set c v→setN (effs (p++y::zs)) (p.length * 3+c) [v]=effs (p++z'::zs):=fun y z' c v hc hy=>by
    rw[setN_one]
    have:=rows_set effC_length ⟨5,0,[]⟩ (p++y::zs) p.length c v z' (by simp) hc (by simpa [List.getD] using hy)
    unfold effs
    rw[this];simp
   have w1:IntKind.i64.wrap (s+1)=s+1:=by rw[wrap64] <;>omega
   have w2:IntKind.i64.wrap (s+1+1)=s+2:=by rw[wrap64] <;>omega
   have e0:=st z ⟨s,z.len,z.nums⟩ 0 (.int .i64 s) (by decide) rfl
   have e1:=st ⟨s,z.len,z.nums⟩ ⟨s,s+1,z.nums⟩ 1 (.int .i64 (s+1)) (by decide) rfl
   have e2:=st ⟨s,s+1,z.nums⟩ ⟨s,s+1,marksF .f32 (s+2) z.nums.length⟩ 2 (.lst z.nums.length (fls .f32 (marksF .f32 (s+2) z.nums.length))) (by decide) (by simp[effC,marksF_length])
   have h2:p.length<(p++(⟨s,s+1,z.nums⟩:Eff)::zs).length:=by simp
   have hat2:eAt (p++(⟨s,s+1,z.nums⟩:Eff)::zs) p.length=⟨s,s+1,z.nums⟩:=by simp[eAt,List.getD]
   have g3:(effs (p++(⟨s,s+1,z.nums⟩:Eff)::zs))[p.length * 3+2]?=some (.lst z.nums.length (fls .f32 z.nums)):=by
    rw[eff_get (c:=2) (by decide) _ _ h2,hat2];rfl
   have g4:okAt [.lst] (effs (p++(⟨s,s+1,z.nums⟩:Eff)::zs)) (p.length * 3+2)=true:=by simp[okAt,g3,isCK]
   have g5:nAt (effs (p++(⟨s,s+1,z.nums⟩:Eff)::zs)) (p.length * 3+2)=z.nums.length:=by unfold nAt;rw[g3]
   have g6:lAt (effs (p++(⟨s,s+1,z.nums⟩:Eff)::zs)) (p.length * 3+2)=fls .f32 z.nums:=by unfold lAt;rw[g3]
   have e3:=mark32 n z.nums (by omega) (s+2) (by omega) (by omega) (by omega)
   have step:=ih (p++[⟨s,s+1,marksF .f32 (s+2) z.nums.length⟩]) (s+2+(z.nums.length:Int)) m (fun e he=>hx e (by simp[he])) (by omega) (by omega) (by simp at hp ⊢;omega) (by simp at hm;omega)
   rw[f157.l0,lt_mid,in_mid,toNat_len,wrap_len (z:=z) (show p.length<4611686018427387904 by simp at hp;omega)]
   simp only[br_t,gd_t,hb z 0 (by decide),e0,w1,hb _ 1 (by decide),e1,w2,g4,Bool.and_self,g5,g6,e3,bd_s,e2]
   have q1:(p++[(⟨s,s+1,marksF .f32 (s+2) z.nums.length⟩:Eff)])++zs=p++⟨s,s+1,marksF .f32 (s+2) z.nums.length⟩::zs:=by simp
   have q2:(p++[(⟨s,s+1,marksF .f32 (s+2) z.nums.length⟩:Eff)])++marksE (s+2+(z.nums.length:Int)) zs=p++marksE s (z::zs):=by simp[marksE]
   rw[q1,q2,hlen] at step
   have q3:(p++[(⟨s,s+1,marksF .f32 (s+2) z.nums.length⟩:Eff)]).length=(p++[z]).length:=by simp
   rw[q3] at step
   rw[step]
   congr 3
   simp only[nmE,List.length_cons];omega
theorem mks_e (n:Nat) (es:List Eff) (hx:∀ e∈es,e.nums.length≤1048576) (hl:es.length≤1048576) (s:Int) (h0:0≤s) (h1:s+2 * (es.length:Int)+(nmE es:Int)≤1099511627776) (hn:1048576<n) :
  f157 (n+2) es.length (effs es) s=some (s+2 * (es.length:Int)+(nmE es:Int),es.length,effs (marksE s es)):=by
 have e:=mkl_e n hn es [] s (n+1) hx h0 h1 (by simpa using hl) (by omega)
 have e:f157.l0 (n+1) (n+1) es.length (effs es) s 0=some (es.length,effs (marksE s es),s+2 * (es.length:Int)+(nmE es:Int)):=e
 rw[f157,e];rfl
theorem sz1_c (n:Nat) (e:Eff) (hx:e.nums.length≤9223372036854775807) (left:Int) (h0:0≤left) (h1:left≤1048576):f150 (n+2) e.kind e.len e.nums.length (fls .f32 e.nums) left=some (leftM left e.nums.length):=by
 rw[f150,sz32 n e.nums hx left h0 h1]
 simp only[bd_s,leftM_neg h0]
 by_cases h:(e.nums.length:Int)≤left
 ·rw[decide_eq_true h];rfl
 ·rw[decide_eq_false h];unfold leftM;rw[if_neg h];rfl
theorem szl_c (n:Nat) (es:List Eff) (hx:∀ e∈es,e.nums.length≤9223372036854775807) (hl:es.length≤1048576):∀ (j i m:Nat) (left:Int),0≤left→left≤1048576→i+j=es.length→j<m →
  f109.l0 (n+2) m es.length (effs es) left (i:Int)=some (if (nmE (es.drop i):Int)≤left then Sum.inr (left - (nmE (es.drop i):Int)) else Sum.inl (-1)):=by
 intro j
 induction j with
 | zero =>
   intro i m left h0 h1 hi hm
   obtain ⟨m,rfl⟩:∃ k,m=k+1:=⟨m - 1,by omega⟩
   rw[f109.l0,nlt_dec (by omega),List.drop_eq_nil_of_le (by omega)]
   simp[br,nmE,h0]
 | succ j ih =>
   intro i m left h0 h1 hi hm
   obtain ⟨m,rfl⟩:∃ k,m=k+1:=⟨m - 1,by omega⟩
   have h:i<es.length:=by omega
   have e1:=sz1_c n (eAt es i) (hx _ (eAt_mem h)) left h0 h1
   rw[f109.l0,lt_dec h,in_dec h,Int.toNat_natCast,okE h,eff_drop h,nmE]
   simp only[br_t,Bool.and_self,gd_t,kE h,gE h,nE h,lE h,e1,bd_s,leftM_neg h0,wrap_succ (show i<9223372036854775807 by omega)]
   by_cases hc:((eAt es i).nums.length:Int)≤left
   ·rw[decide_eq_true hc]
    simp only[Bool.not_true,br_f]
    have hL:leftM left (eAt es i).nums.length=left - ((eAt es i).nums.length:Int):=by unfold leftM;rw[if_pos hc]
    rw[hL,ih (i+1) m _ (by omega) (by omega) (by omega) (by omega)]
    congr 1
    by_cases h2:(nmE (es.drop (i+1)):Int)≤left - ((eAt es i).nums.length:Int)
    ·rw[if_pos h2,if_pos (by omega)];congr 1;omega
    ·rw[if_neg h2,if_neg (by omega)]
   ·rw[decide_eq_false hc,if_neg (by omega)];rfl
theorem szs_c (n:Nat) (es:List Eff) (hx:∀ e∈es,e.nums.length≤9223372036854775807) (hx2:es.length≤9223372036854775807) (left:Int) (h0:0≤left) (h1:left≤1048576) (hn:1048577<n) :
  f109 (n+3) es.length (effs es) left=some (leftM left (szE es)):=by
 rw[f109,show IntKind.i64.wrap (left - (es.length:Int))=left - (es.length:Int) by rw[wrap64] <;>omega,szE_nm]
 unfold leftM
 by_cases h:(es.length:Int)≤left
 ·have e:=szl_c n es hx (by omega) es.length 0 (n+2) (left - (es.length:Int)) (by omega) (by omega) (by omega) (by omega)
  have e:f109.l0 (n+2) (n+2) es.length (effs es) (left - (es.length:Int)) 0=_:=e
  rw[decide_eq_false (by omega),e,List.drop_zero]
  by_cases h2:(nmE es:Int)≤left - (es.length:Int)
  ·rw[if_pos h2,if_pos (by omega)]
   simp only[br_f,bd_s,sm_r]
   congr 1;omega
  ·rw[if_neg h2,if_neg (by omega)];rfl
 ·rw[decide_eq_true (by omega),if_neg (by omega)];rfl
theorem to1_c (n:Nat) (e:Eff) (hx:e.nums.length≤1048576) (hn:1048576<n):f152 (n+2) e.kind e.len e.nums.length (fls .f32 e.nums)=some (e.kind,e.len,e.nums.length,fls .f32 e.nums):=by
 rw[f152,copied n e.nums hx (by omega)];rfl
theorem tol_c (n:Nat) (es:List Eff) (hx:∀ e∈es,e.nums.length≤1048576) (hl:es.length≤1048576) (hn:1048576<n):∀ (j i m:Nat) (ys:List Eff),ys.length=es.length→i+j=es.length→j<m →
  f111.l0 (n+2) m es.length (effs es) es.length (effs (es.take i++ys.drop i)) (i:Int)=some (es.length,effs es):=by
 intro j
 induction j with
 | zero =>
   intro i m ys hy hi hm
   obtain ⟨m,rfl⟩:∃ k,m=k+1:=⟨m - 1,by omega⟩
   rw[f111.l0,nlt_dec (by omega),List.take_of_length_le (by omega),List.drop_eq_nil_of_le (by omega),List.append_nil];rfl
 | succ j ih =>
   intro i m ys hy hi hm
   obtain ⟨m,rfl⟩:∃ k,m=k+1:=⟨m - 1,by omega⟩
   have h:i<es.length:=by omega
   have hlen:(es.take i++ys.drop i).length=es.length:=by rw[List.length_append,List.length_take,List.length_drop];omega
   have h':i<(es.take i++ys.drop i).length:=by omega
   have hb:Nat.ble (i * 3+0+3) (effs (es.take i++ys.drop i)).length=true:=by rw[effs_length,hlen];exact le_ble (by omega)
   have hset:(es.take i++ys.drop i).set i (eAt es i)=es.take (i+1)++ys.drop (i+1):=by
    have:eAt es i=es[i]:=by simp[eAt,List.getD,h]
    rw[this];exact take_set_drop h hy
   rw[f111.l0,lt_dec h,in_dec h,Int.toNat_natCast,okE h]
   simp only[br_t,Bool.and_self,gd_t,kE h,gE h,nE h,lE h,to1_c n (eAt es i) (hx _ (eAt_mem h)) hn,bd_s,hb,eff_row h' (eAt es i),hset,wrap_succ (show i<9223372036854775807 by omega)]
   exact ih (i+1) m ys hy (by omega) (by omega)
theorem tos_c (n:Nat) (es:List Eff) (hx:∀ e∈es,e.nums.length≤1048576) (hl:es.length≤1048576) (hn:1048576<n):f111 (n+3) es.length (effs es)=some (es.length,effs es):=by
 have e:=tol_c n es hx hl hn es.length 0 (n+2) (List.replicate es.length ⟨0,0,[]⟩) (by simp) (by omega) (by omega)
 rw[List.take_zero,List.drop_zero,List.nil_append] at e
 have e:f111.l0 (n+2) (n+2) es.length (effs es) es.length (effs (List.replicate es.length ⟨0,0,[]⟩)) 0=_:=e
 rw[f111,decide_eq_true (show (0:Int)≤(es.length:Int)∧(es.length:Int)≤2147483648 by omega),reps_effs]
 simp only[gd_t,e,bd_s]
theorem eq1_c (n:Nat) (e:Eff) (hx:e.nums.length≤1048576) (hn:1048576<n):f154 (n+3) e.kind e.len e.nums.length (fls .f32 e.nums) e.kind e.len e.nums.length (fls .f32 e.nums)=some true:=by
 rw[f154,eq_self n e.nums (by omega) (by omega)]
 simp only[bne_self_eq_false,br_f,bd_s,Bool.not_true]
theorem eql_c (n:Nat) (es:List Eff) (hx:∀ e∈es,e.nums.length≤1048576) (hl:es.length≤1048576) (hn:1048576<n):∀ (j i m:Nat),i+j=es.length→j<m →
  f113.l0 (n+3) m es.length (effs es) es.length (effs es) (i:Int)=some (Sum.inr ()):=by
 intro j
 induction j with
 | zero =>
   intro i m hi hm
   obtain ⟨m,rfl⟩:∃ k,m=k+1:=⟨m - 1,by omega⟩
   rw[f113.l0,nlt_dec (by omega)];rfl
 | succ j ih =>
   intro i m hi hm
   obtain ⟨m,rfl⟩:∃ k,m=k+1:=⟨m - 1,by omega⟩
   have h:i<es.length:=by omega
   rw[f113.l0,lt_dec h,in_dec h,Int.toNat_natCast,okE h]
   simp only[br_t,Bool.and_self,gd_t,kE h,gE h,nE h,lE h,eq1_c n (eAt es i) (hx _ (eAt_mem h)) hn,bd_s,Bool.not_true,br_f,wrap_succ (show i<9223372036854775807 by omega)]
   exact ih (i+1) m (by omega) (by omega)
end Go.Proofs.Ytdobhipbgpiceaa.D
end
