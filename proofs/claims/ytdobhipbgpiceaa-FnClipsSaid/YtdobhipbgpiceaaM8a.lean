/- FnClips holds: for every input the law returns true, and its arguments read as before. -/
import Derived.Test.YtdobhipbgpiceaaChecked
import Derived.KernelRfl
import Derived.Test.YtdobhipbgpiceaaRows
import Derived.WalkKit
import Derived.ProofKit
import Derived.OpenShut
import Derived.ShutString
import Derived.ChangeOld
import Derived.Below
import Derived.SizedLaws
import Derived.Test.YtdobhipbgpiceaaKernC
set_option linter.all false
set_option linter.unusedVariables false
section
namespace Go.Desk
open Go
def p2 (e:Int):Rat:=(2:Rat) ^ e
theorem p2_pos (e:Int):0<p2 e:=Rat.zpow_pos (by decide)
theorem p2_add (a b:Int):p2 (a+b)=p2 a * p2 b:=Rat.zpow_add (by decide) a b
theorem p2_zero:p2 0=1:=Rat.zpow_zero _
theorem p2_nat (n:Nat):p2 (n:Int)=((2 ^ n:Nat):Rat):=by
 induction n with
 | zero=>exact p2_zero
 | succ n ih =>
   rw[show ((n+1:Nat):Int)=(n:Int)+1 by omega,p2_add,ih,Nat.pow_succ,Rat.natCast_mul,show p2 1=(2:Rat) from Rat.zpow_one _]
   rfl
theorem p2_ge_one (n:Nat):1≤p2 (n:Int):=by
 rw[p2_nat]
 have:1≤2 ^ n:=Nat.one_le_two_pow
 exact_mod_cast this
theorem p2_le {a b:Int} (h:a≤b):p2 a≤p2 b:=by
 obtain ⟨n,hn⟩:=Int.eq_ofNat_of_zero_le (show 0≤b - a by omega)
 rw[show b=a+(n:Int) by omega,p2_add]
 have:=Rat.mul_le_mul_of_nonneg_left (p2_ge_one n) (Rat.le_of_lt (p2_pos a))
 rwa [Rat.mul_one] at this
theorem p2_lt {a b:Int} (h:a<b):p2 a<p2 b:=by
 have h1:p2 (a+1)≤p2 b:=p2_le (by omega)
 have h2:p2 (a+1)=p2 a * 2:=by rw[p2_add,show p2 1=(2:Rat) from Rat.zpow_one _]
 have h3:=p2_pos a
 grind
def mv (m:Nat) (e:Int):Rat:=(m:Rat) * p2 e
theorem mv_nonneg (m:Nat) (e:Int):0≤mv m e:=Rat.mul_nonneg (by exact_mod_cast Nat.zero_le m) (Rat.le_of_lt (p2_pos e))
theorem mv_zero (e:Int):mv 0 e=0:=by unfold mv;rw[show ((0:Nat):Rat)=0 from rfl,Rat.zero_mul]
theorem mv_shift (m k:Nat) (e:Int):mv (m * 2 ^ k) e=mv m (e+k):=by
 unfold mv
 rw[Rat.natCast_mul,p2_add,p2_nat]
 grind
theorem mv_le {m n:Nat} {e:Int}:mv m e≤mv n e↔m≤n:=by
 unfold mv
 constructor
 ·intro h
  have:=Rat.le_of_mul_le_mul_right h (p2_pos e)
  exact_mod_cast this
 ·intro h
  exact Rat.mul_le_mul_of_nonneg_right (by exact_mod_cast h) (Rat.le_of_lt (p2_pos e))
theorem mv_lt {m n:Nat} {e:Int}:mv m e<mv n e↔m<n:=by
 rw[← Rat.not_le,mv_le];omega
theorem mv_one (e:Int):mv 1 e=p2 e:=by unfold mv;rw[show ((1:Nat):Rat)=1 from rfl,Rat.one_mul]
theorem mv_pow (k:Nat) (e:Int):mv (2 ^ k) e=p2 (e+k):=by
 have:=mv_shift 1 k e
 rw[Nat.one_mul] at this
 rw[this,mv_one]
theorem cut_bounds (s:Bool) (n d B:Nat):(n≤B * 2 ^ d→Ieee.Toward.cut .even s n d≤B)∧(B * 2 ^ d≤n→B≤Ieee.Toward.cut .even s n d):=by
 unfold Ieee.Toward.cut
 simp only[Nat.shiftLeft_eq,Nat.one_mul]
 rcases Nat.lt_or_ge (n.log2+2) d with hd | hd
 ·rw[Nat.min_eq_right (Nat.le_of_lt hd)]
  have h1:n<2 ^ (n.log2+1):=Nat.lt_log2_self
  have h2:2 ^ (n.log2+2)=2 * 2 ^ (n.log2+1):=by rw[Nat.pow_succ];omega
  have h3:n<2 ^ (n.log2+2):=by omega
  rw[Nat.div_eq_of_lt h3,Nat.mod_eq_of_lt h3]
  have hm:(decide (2 ^ (n.log2+2)<2 * n)||(2 ^ (n.log2+2)==2 * n&&(0:Nat) % 2==1))=false:=by
   simp;omega
  rw[hm]
  constructor
  ·intro _;exact Nat.zero_le _
  ·intro h
   have h4:2 ^ (n.log2+2)≤2 ^ d:=Nat.pow_le_pow_right (by decide) (by omega)
   rcases Nat.eq_zero_or_pos B with rfl | hB
   ·exact Nat.zero_le _
   ·have:2 ^ d≤B * 2 ^ d:=Nat.le_mul_of_pos_left _ hB
    omega
 ·rw[Nat.min_eq_left hd]
  have hg:0<2 ^ d:=Nat.two_pow_pos d
  generalize 2 ^ d=g at hg ⊢
  have hn:g * (n / g)+n % g=n:=Nat.div_add_mod n g
  have hr:n % g<g:=Nat.mod_lt _ hg
  generalize hq:n / g=q at hn ⊢
  generalize hrr:n % g=r at hn hr ⊢
  constructor
  ·intro h
   cases hm:(decide (g<2 * r)||(g==2 * r&&q % 2==1))
   ·simp only[Bool.toNat_false,Nat.add_zero]
    have:g * q≤B * g:=by omega
    rw[Nat.mul_comm] at this
    exact Nat.le_of_mul_le_mul_right this hg
   ·simp only[Bool.toNat_true]
    have hr0:0<r:=by
     simp only[Bool.or_eq_true,decide_eq_true_eq,Bool.and_eq_true,beq_iff_eq] at hm
     omega
    have:g * q<g * B:=by rw[Nat.mul_comm g B];omega
    exact Nat.lt_of_mul_lt_mul_left this
  ·intro h
   have:B≤q:=by
    rw[← hq]
    exact (Nat.le_div_iff_mul_le hg).2 h
   omega
def sg (s:Bool) (v:Rat):Rat:=if s then -v else v
def fval (k:FloatKind) (x:Nat):Rat:=match k.decode x with
 | .number s m e=>sg s (mv m e)
 | _=>0
def Rep0 (k:FloatKind) (B:Rat):Prop:=∃ M P,M≤2 * k.format.binade∧k.format.leastPlace≤P∧B=mv M P
def topE:FloatKind→Int
 | .f32=>128
 | .f64=>1024
theorem fmt (k:FloatKind):∃ K:Nat,2≤K∧k.format.infRung=K * k.format.binade∧topE k=k.format.leastPlace+(k.format.fractionBits:Int)+(K:Int) - 1∧k.format.infRung<k.format.signWeight∧k.format.binade=2 ^ k.format.fractionBits:=by
 cases k
 ·exact ⟨255,by decide,by decide,by decide,by decide,rfl⟩
 ·exact ⟨2047,by decide,by decide,by decide,by decide,rfl⟩
theorem word_neg {f:Ieee.Format} {s:Bool} {r:Nat} (h:r<f.signWeight):(f.word s r / f.signWeight % 2==1)=s:=by
 have hp:0<f.signWeight:=by omega
 unfold Ieee.Format.word
 cases s
 ·simp[Nat.div_eq_of_lt h]
 ·simp only[if_true]
  rw[Nat.add_div_left _ hp,Nat.div_eq_of_lt h];rfl
theorem word_rung {f:Ieee.Format} {s:Bool} {r:Nat} (h:r<f.signWeight):f.word s r % f.signWeight=r:=by
 unfold Ieee.Format.word
 split
 ·rw[Nat.add_mod_left,Nat.mod_eq_of_lt h]
 ·rw[Nat.mod_eq_of_lt h]
theorem read_rung (k:FloatKind) (s:Bool) {j kept:Nat} (h1:kept≤2 * k.format.binade) (h2:0<j→k.format.binade≤kept) (h3:j * k.format.binade+kept<k.format.infRung) :
  ∃ m e,k.format.read (k.format.word s (j * k.format.binade+kept)) = .number s m e∧mv m e=mv kept (k.format.leastPlace+(j:Int))∧m≤2 * k.format.binade∧k.format.leastPlace≤e:=by
 obtain ⟨K,-,-,-,hw,hb⟩:=fmt k
 have hbp:0<k.format.binade:=by rw[hb];exact Nat.two_pow_pos _
 have hr:j * k.format.binade+kept<k.format.signWeight:=by omega
 unfold Ieee.Format.read
 simp only[word_neg hr,word_rung hr]
 generalize hbb:k.format.binade=b at *
 by_cases c1:j * b+kept<b
 ·rw[if_pos c1]
  have hj:j=0:=by
   rcases Nat.eq_zero_or_pos j with h | h
   ·exact h
   ·have:=Nat.le_mul_of_pos_left b h;omega
  subst hj
  refine ⟨_,_,rfl,?_,by omega,Int.le_refl _⟩
  rw[Nat.zero_mul,Nat.zero_add];simp
 ·rw[if_neg c1,if_pos h3]
  rcases Nat.lt_or_ge kept b with hk | hk
  ·rcases Nat.eq_zero_or_pos j with h | h
   ·subst h;omega
   ·have:=h2 h;omega
  ·rcases Nat.lt_or_ge kept (2 * b) with hk2 | hk2
   ·have e1:(j * b+kept) / b=j+1:=by
     rw[show j * b+kept=(kept - b)+b * (j+1) by rw[Nat.mul_add,Nat.mul_comm b j];omega,Nat.add_mul_div_left _ _ hbp,Nat.div_eq_of_lt (by omega)];omega
    have e2:(j * b+kept) % b=kept - b:=by
     rw[show j * b+kept=(kept - b)+b * (j+1) by rw[Nat.mul_add,Nat.mul_comm b j];omega,Nat.add_mul_mod_self_left,Nat.mod_eq_of_lt (by omega)]
    refine ⟨_,_,rfl,?_,by rw[e2];omega,by rw[e1];omega⟩
    rw[e1,e2,show b+(kept - b)=kept by omega,Nat.add_sub_cancel]
   ·have hk3:kept=2 * b:=by omega
    subst hk3
    have e1:(j * b+2 * b) / b=j+2:=by rw[← Nat.add_mul,Nat.mul_div_cancel _ hbp]
    have e2:(j * b+2 * b) % b=0:=by rw[← Nat.add_mul,Nat.mul_mod_left]
    refine ⟨_,_,rfl,?_,by rw[e2];omega,by rw[e1];omega⟩
    rw[e1,e2,Nat.add_zero,show (j+2 - 1:Nat)=j+1 by omega,show 2 * b=b * 2 ^ 1 by omega,mv_shift]
    congr 1;omega
theorem round_mag (k:FloatKind) (s:Bool) (m:Nat) (e:Int) {B0:Rat} (hB0:Rep0 k B0) (hv:mv m e≤B0) (hf:B0<p2 (topE k)) :
  ∃ m' e',k.format.read (k.format.nearest s m e) = .number s m' e'∧m'≤2 * k.format.binade∧k.format.leastPlace≤e'∧∀ B,Rep0 k B→(mv m e≤B→mv m' e'≤B)∧(B≤mv m e→B≤mv m' e'):=by
 obtain ⟨K,hK,hinf,htop,hw,hb⟩:=fmt k
 have hbp:0<k.format.binade:=by rw[hb];exact Nat.two_pow_pos _
 unfold Ieee.Format.nearest
 by_cases hm:m=0
 ·subst hm
  rw[if_pos rfl]
  have h3:0 * k.format.binade+0<k.format.infRung:=by rw[hinf,Nat.zero_mul,Nat.zero_add];exact Nat.mul_pos (by omega) hbp
  obtain ⟨m',e',r1,r2,r3,r4⟩:=read_rung k s (j:=0) (kept:=0) (Nat.zero_le _) (by omega) h3
  rw[Nat.zero_mul] at r1
  refine ⟨m',e',r1,r3,r4,fun B _ => ?_⟩
  rw[r2,mv_zero,mv_zero]
  exact ⟨id,id⟩
 rw[if_neg hm]
 generalize hla:max (e+(m.log2:Int) - (k.format.fractionBits:Int)) k.format.leastPlace=last
 have hl1:k.format.leastPlace≤last:=by omega
 have hl2:e+(m.log2:Int) - (k.format.fractionBits:Int)≤last:=by omega
 have hl3:last≠k.format.leastPlace→last=e+(m.log2:Int) - (k.format.fractionBits:Int):=by omega
 simp only
 generalize hn:m <<< (e - last).toNat=n
 generalize hd:(last - e).toNat=d
 have hval:mv n (last - (d:Int))=mv m e:=by
  rw[← hn,Nat.shiftLeft_eq,mv_shift]
  congr 1;omega
 have hlow:p2 (e+(m.log2:Int))≤mv m e:=by
  have:2 ^ m.log2≤m:=Nat.log2_self_le hm
  have h:=(mv_le (e:=e)).2 this
  rwa [mv_pow] at h
 have hhigh:mv m e<p2 (e+(m.log2:Int)+1):=by
  have:m<2 ^ (m.log2+1):=Nat.lt_log2_self
  have h:=(mv_lt (e:=e)).2 this
  rw[mv_pow] at h
  rw[show e+(m.log2:Int)+1=e+((m.log2+1:Nat):Int) by omega];exact h
 generalize hk:Ieee.Toward.cut .even s n d=kept
 have hcut:∀ B:Nat,(mv m e≤mv B last→mv kept last≤mv B last)∧(mv B last≤mv m e→mv B last≤mv kept last):=by
  intro B
  have hB:mv B last=mv (B * 2 ^ d) (last - (d:Int)):=by rw[mv_shift];congr 1;omega
  have:=cut_bounds s n d B
  rw[hk] at this
  rw[mv_le,mv_le]
  rw[← hval,hB,mv_le,mv_le]
  exact this
 have hkb:kept≤2 * k.format.binade:=by
  have h:=(hcut (2 * k.format.binade)).1 (by
   rw[hb,show 2 * 2 ^ k.format.fractionBits=2 ^ (k.format.fractionBits+1) by rw[Nat.pow_succ];omega,mv_pow]
   refine Rat.le_trans (Rat.le_of_lt hhigh) (p2_le ?_)
   omega)
  exact mv_le.1 h
 have hkl:last≠k.format.leastPlace→k.format.binade≤kept:=by
  intro h
  have h:=(hcut k.format.binade).2 (by
   rw[hb,mv_pow]
   refine Rat.le_trans (p2_le ?_) hlow
   have:=hl3 h
   omega)
  exact mv_le.1 h
 have key:∀ B,Rep0 k B→(mv m e≤B→mv kept last≤B)∧(B≤mv m e→B≤mv kept last):=by
  rintro B ⟨M,P,hM,hP,rfl⟩
  by_cases hPl:last≤P
  ·have hB:mv M P=mv (M * 2 ^ (P - last).toNat) last:=by rw[mv_shift];congr 1;omega
   rw[hB];exact hcut _
  ·have hl4:=hl3 (by omega)
   have hMB:mv M P≤mv k.format.binade last:=by
    refine Rat.le_trans (mv_le.2 hM) ?_
    rw[hb,show 2 * 2 ^ k.format.fractionBits=2 ^ (k.format.fractionBits+1) by rw[Nat.pow_succ];omega,mv_pow,mv_pow]
    exact p2_le (by omega)
   have hBm:mv k.format.binade last≤mv m e:=by
    rw[hb,mv_pow]
    exact Rat.le_trans (p2_le (by omega)) hlow
   constructor
   ·intro h
    have h1:mv m e≤mv k.format.binade last:=Rat.le_trans h hMB
    exact Rat.le_trans ((hcut _).1 h1) (Rat.le_trans hBm h)
   ·intro _
    exact Rat.le_trans hMB ((hcut _).2 hBm)
 have hfin:(last - k.format.leastPlace).toNat * k.format.binade+kept<k.format.infRung:=by
  rcases Nat.lt_or_ge ((last - k.format.leastPlace).toNat * k.format.binade+kept) k.format.infRung with h | h
  ·exact h
  ·exfalso
   have hR:mv kept last<p2 (topE k):=by
    have h1:=(key B0 hB0).1 hv
    grind
   rw[hinf] at h
   generalize hj:(last - k.format.leastPlace).toNat=j at h
   generalize hbb:k.format.binade=b at *
   have hj2:K≤j+2:=by
    rcases Nat.lt_or_ge (j+2) K with h' | h'
    ·have:(j+3) * b≤K * b:=Nat.mul_le_mul_right _ h'
     rw[Nat.add_mul] at this
     omega
    ·exact h'
   have hge:p2 (topE k)≤mv kept last:=by
    rcases Nat.lt_or_ge j (K - 1) with h' | h'
    ·have hj3:K=j+2:=by omega
     subst hj3
     rw[Nat.add_mul] at h
     have:kept=2 ^ (k.format.fractionBits+1):=by rw[Nat.pow_succ,← hb];omega
     rw[this,mv_pow]
     exact p2_le (by omega)
    ·have:mv (2 ^ k.format.fractionBits) last≤mv kept last:=mv_le.2 (by rw[← hb];exact hkl (by omega))
     refine Rat.le_trans ?_ this
     rw[mv_pow]
     exact p2_le (by omega)
   grind
 rw[Nat.min_eq_left (Nat.le_of_lt hfin)]
 obtain ⟨m',e',r1,r2,r3,r4⟩:=read_rung k s hkb (fun h=>hkl (by omega)) hfin
 refine ⟨m',e',r1,r3,r4,fun B hB => ?_⟩
 rw[r2,show k.format.leastPlace+((last - k.format.leastPlace).toNat:Int)=last by omega]
 exact key B hB
end Go.Desk
end
section
namespace Go.Desk
open Go
theorem mv_mul (a b:Nat) (e f:Int):mv (a * b) (e+f)=mv a e * mv b f:=by
 unfold mv;rw[Rat.natCast_mul,p2_add];grind
end Go.Desk
end
section
namespace Go.Desk
open Go
def Rep (k:FloatKind) (B:Rat):Prop:=∃ s C,Rep0 k C∧B=sg s C
theorem sg_false (v:Rat):sg false v=v:=rfl
theorem sg_true (v:Rat):sg true v = -v:=rfl
theorem rep0_nonneg {k:FloatKind} {B:Rat} (h:Rep0 k B):0≤B:=by
 obtain ⟨M,P,-,-,rfl⟩:=h;exact mv_nonneg _ _
theorem Rep0.rep {k:FloatKind} {B:Rat} (h:Rep0 k B):Rep k B:=⟨false,B,h,rfl⟩
theorem Rep0.neg {k:FloatKind} {B:Rat} (h:Rep0 k B):Rep k (-B):=⟨true,B,h,rfl⟩
def Val (k:FloatKind) (x:Nat) (v:Rat):Prop:=∃ s m e,k.decode x = .number s m e∧v=sg s (mv m e)∧m≤2 * k.format.binade∧k.format.leastPlace≤e
theorem Val.rep {k:FloatKind} {x:Nat} {v:Rat} (h:Val k x v):Rep k v:=by
 obtain ⟨s,m,e,-,rfl,h1,h2⟩:=h
 exact ⟨s,_,⟨m,e,h1,h2,rfl⟩,rfl⟩
theorem Val.inj {k:FloatKind} {x:Nat} {v w:Rat} (h:Val k x v) (h':Val k x w):v=w:=by
 obtain ⟨s,m,e,h1,rfl,-⟩:=h
 obtain ⟨s',m',e',h2,rfl,-⟩:=h'
 rw[h1] at h2;cases h2;rfl
def Near (k:FloatKind) (v R:Rat):Prop:=∀ B,Rep k B→(v≤B→R≤B)∧(B≤v→B≤R)
theorem write_val (k:FloatKind) (s:Bool) (m:Nat) (e:Int) {B0:Rat} (hB0:Rep0 k B0) (hv:mv m e≤B0) (hf:B0<p2 (topE k)) :
  ∃ R,Val k (k.encode (.number s m e)) R∧Near k (sg s (mv m e)) R:=by
 obtain ⟨m',e',r1,r2,r3,r4⟩:=round_mag k s m e hB0 hv hf
 refine ⟨sg s (mv m' e'),⟨s,m',e',r1,rfl,r2,r3⟩,?_⟩
 rintro B ⟨t,C,hC,rfl⟩
 obtain ⟨c1,c2⟩:=r4 C hC
 have hC0:=rep0_nonneg hC
 have h0:=mv_nonneg m e
 have h0' :=mv_nonneg m' e'
 have hz:mv m e≤0→mv m' e'≤0:=by
  intro h
  have hz:Rep0 k 0:=⟨0,k.format.leastPlace,Nat.zero_le _,Int.le_refl _,(mv_zero _).symm⟩
  exact (r4 0 hz).1 h
 cases s <;>cases t <;>simp only[sg] <;>constructor <;>intro h <;>simp only[Bool.false_eq_true,if_false,if_true] at * <;>grind
theorem Val.near_eq {k:FloatKind} {x:Nat} {v R:Rat} (h:Val k x R) (hn:Near k v R) (hv:Rep k v):Val k x v:=by
 have h1:=(hn v hv).1 Rat.le_refl
 have h2:=(hn v hv).2 Rat.le_refl
 have:v=R:=by grind
 rw[this];exact h
theorem Val.num {k:FloatKind} {x:Nat} {v:Rat} (h:Val k x v):isNaN k x=false:=by
 obtain ⟨s,m,e,h1,-⟩:=h
 unfold isNaN;rw[h1];rfl
theorem signed_val (s:Bool) (m up:Nat) (b:Int):((Ieee.signed s m up:Int):Rat) * p2 b=sg s (mv m (b+(up:Int))):=by
 rw[← mv_shift]
 unfold Ieee.signed sg mv
 rw[Nat.shiftLeft_eq]
 cases s <;>simp only[Bool.false_eq_true,if_false,if_true]
 ·rw[Rat.intCast_natCast]
 ·rw[Rat.intCast_neg,Rat.intCast_natCast];grind
theorem total_val (t:Int) (c:Bool) (b:Int):sg (if t=0 then c else decide (t<0)) (mv t.natAbs b)=(t:Rat) * p2 b:=by
 by_cases h0:t=0
 ·subst h0
  rw[if_pos rfl]
  simp only[Int.natAbs_zero,mv_zero,sg,Rat.intCast_zero,Rat.zero_mul]
  cases c <;>simp
 ·rw[if_neg h0]
  by_cases h1:t<0
  ·rw[decide_eq_true h1]
   have:(t:Rat) = -((t.natAbs:Nat):Rat):=by rw[← Rat.intCast_natCast,← Rat.intCast_neg];congr 1;omega
   rw[this]
   simp only[sg,if_true,mv];grind
  ·rw[decide_eq_false h1]
   have:(t:Rat)=((t.natAbs:Nat):Rat):=by rw[← Rat.intCast_natCast];congr 1;omega
   rw[this]
   simp only[sg,Bool.false_eq_true,if_false,mv]
theorem rlt {a b c:Rat} (h1:a≤b) (h2:b<c):a<c:=by grind
theorem abs_le {s:Bool} {c B:Rat} (_:0≤c) (h1:sg s c≤B) (h2 : -B≤sg s c):c≤B:=by
 cases s <;>simp only[sg,Bool.false_eq_true,if_false,if_true] at * <;>grind
theorem add_val {k:FloatKind} {x y:Nat} {a b B:Rat} (hx:Val k x a) (hy:Val k y b) (hB:Rep0 k B) (hf:B<p2 (topE k)) (h1:a+b≤B) (h2 : -B≤a+b) :
  ∃ R,Val k (fadd k x y) R∧Near k (a+b) R:=by
 obtain ⟨s,m,i,e1,rfl,-⟩:=hx
 obtain ⟨t,n,j,e2,rfl,-⟩:=hy
 have e1:k.format.read x = .number s m i:=e1
 have e2:k.format.read y = .number t n j:=e2
 generalize hb:min i j=base
 generalize ht:Ieee.signed s m (i - base).toNat+Ieee.signed t n (j - base).toNat=total
 have hadd:fadd k x y=k.encode (.number (if total=0 then s&&t else total<0) total.natAbs base):=by
  simp only[fadd,Ieee.Format.add,e1,e2,Ieee.Datum.sum,Option.map_some,hb,ht]
  rfl
 have hval:sg (if total=0 then s&&t else decide (total<0)) (mv total.natAbs base)=sg s (mv m i)+sg t (mv n j):=by
  rw[total_val,← ht,Rat.intCast_add,Rat.add_mul,signed_val,signed_val]
  congr 2 <;>congr 1 <;>omega
 rw[hadd,← hval]
 exact write_val k _ _ _ hB (abs_le (mv_nonneg _ _) (by rw[hval];exact h1) (by rw[hval];exact h2)) hf
theorem mul_val {k:FloatKind} {x y:Nat} {a b B:Rat} (hx:Val k x a) (hy:Val k y b) (hB:Rep0 k B) (hf:B<p2 (topE k)) (h1:a * b≤B) (h2 : -B≤a * b) :
  ∃ R,Val k (fmul k x y) R∧Near k (a * b) R:=by
 obtain ⟨s,m,i,e1,rfl,-⟩:=hx
 obtain ⟨t,n,j,e2,rfl,-⟩:=hy
 have e1:k.format.read x = .number s m i:=e1
 have e2:k.format.read y = .number t n j:=e2
 have hmul:fmul k x y=k.encode (.number (s ^^ t) (m * n) (i+j)):=by
  simp only[fmul,Ieee.Format.mul,e1,e2,Ieee.Datum.product,Option.map_some]
  rfl
 have hval:sg (s ^^ t) (mv (m * n) (i+j))=sg s (mv m i) * sg t (mv n j):=by
  rw[mv_mul]
  cases s <;>cases t <;>simp[sg] <;>grind
 rw[hmul,← hval]
 exact write_val k _ _ _ hB (abs_le (mv_nonneg _ _) (by rw[hval];exact h1) (by rw[hval];exact h2)) hf
theorem order_val {k:FloatKind} {x y:Nat} {a b:Rat} (hx:Val k x a) (hy:Val k y b):(k.format.order x y=some .lt↔a<b)∧(k.format.order x y=some .eq↔a=b)∧(k.format.order x y=some .gt↔b<a):=by
 obtain ⟨s,m,i,e1,rfl,-⟩:=hx
 obtain ⟨t,n,j,e2,rfl,-⟩:=hy
 have e1:k.format.read x = .number s m i:=e1
 have e2:k.format.read y = .number t n j:=e2
 generalize hb:min i j=base
 have ha:sg s (mv m i)=((Ieee.signed s m (i - base).toNat:Int):Rat) * p2 base:=by rw[signed_val];congr 2;omega
 have hc:sg t (mv n j)=((Ieee.signed t n (j - base).toNat:Int):Rat) * p2 base:=by rw[signed_val];congr 2;omega
 rw[ha,hc]
 have ho:k.format.order x y=some (compare (Ieee.signed s m (i - base).toNat) (Ieee.signed t n (j - base).toNat)):=by
  simp only[Ieee.Format.order,e1,e2,Ieee.Datum.order,hb]
 rw[ho]
 generalize Ieee.signed s m (i - base).toNat=u
 generalize Ieee.signed t n (j - base).toNat=v
 have hlt:∀ p q:Int,(p:Rat) * p2 base<(q:Rat) * p2 base↔p<q:=fun p q=>by rw[Rat.mul_lt_mul_right (p2_pos _),Rat.intCast_lt_intCast]
 have heq:((u:Rat) * p2 base=(v:Rat) * p2 base)↔u=v:=by
  constructor
  ·intro h
   rcases Int.lt_trichotomy u v with h1 | h1 | h1
   ·have:=(hlt u v).2 h1;grind
   ·exact h1
   ·have:=(hlt v u).2 h1;grind
  ·rintro rfl;rfl
 rw[hlt,hlt,heq]
 have hc:(u<v∧compare u v = .lt)∨(u=v∧compare u v = .eq)∨(v<u∧compare u v = .gt):=by
  rcases Int.lt_trichotomy u v with h1 | h1 | h1
  ·exact .inl ⟨h1,by simp[compare,compareOfLessAndEq,h1]⟩
  ·subst h1;exact .inr (.inl ⟨rfl,by simp[compare,compareOfLessAndEq]⟩)
  ·exact .inr (.inr ⟨h1,by simp only[compare,compareOfLessAndEq];rw[if_neg (by omega),if_neg (by omega)]⟩)
 rcases hc with ⟨h,e⟩ | ⟨h,e⟩ | ⟨h,e⟩ <;>rw[e] <;>simp <;>omega
theorem fle_val {k:FloatKind} {x y:Nat} {a b:Rat} (hx:Val k x a) (hy:Val k y b):fle k x y=true↔a≤b:=by
 have h1:=(order_val hx hy).1
 have h2:=(order_val hx hy).2.1
 simp only[fle,Bool.or_eq_true,beq_iff_eq,h1,h2]
 grind
theorem fge_val {k:FloatKind} {x y:Nat} {a b:Rat} (hx:Val k x a) (hy:Val k y b):fge k x y=true↔b≤a:=by
 have h1:=(order_val hx hy).2.2
 have h2:=(order_val hx hy).2.1
 simp only[fge,Bool.or_eq_true,beq_iff_eq,h1,h2]
 grind
theorem int_val {k:FloatKind} {n:Int} (hn:n.natAbs≤2 * k.format.binade):Val k (k.nearest n) (n:Rat):=by
 have hm:Rep0 k (mv n.natAbs 0):=⟨n.natAbs,0,hn,by cases k <;>decide,rfl⟩
 have hval:sg (decide (n<0)) (mv n.natAbs 0)=(n:Rat):=by
  have:=total_val n (decide (n<0)) 0
  rw[p2_zero,Rat.mul_one] at this
  rw[← this]
  congr 1
  by_cases h:n=0
  ·rw[if_pos h]
  ·rw[if_neg h]
 have hlt:mv n.natAbs 0<p2 (topE k):=by
  have h1:mv n.natAbs 0≤mv (2 * k.format.binade) 0:=mv_le.2 hn
  cases k
  ·exact rlt h1 (by rw[show 2 * FloatKind.f32.format.binade=2 ^ 24 by decide,mv_pow];exact p2_lt (by decide))
  ·exact rlt h1 (by rw[show 2 * FloatKind.f64.format.binade=2 ^ 53 by decide,mv_pow];exact p2_lt (by decide))
 obtain ⟨R,h1,h2⟩:=write_val k (decide (n<0)) n.natAbs 0 hm Rat.le_refl hlt
 have h3:Val k (k.nearest n) R:=h1
 rw[hval] at h2
 refine h3.near_eq h2 ⟨decide (n<0),_,hm,hval.symm⟩
theorem near_sg {k:FloatKind} {Q v:Rat} (hQ:0≤Q) (hv:0≤v) (h:∀ C,Rep0 k C→(Q≤C→v≤C)∧(C≤Q→C≤v)) (s:Bool):Near k (sg s Q) (sg s v):=by
 rintro B ⟨t,C,hC,rfl⟩
 obtain ⟨c1,c2⟩:=h C hC
 have hC0:=rep0_nonneg hC
 have hz:Q≤0→v≤0:=(h 0 ⟨0,k.format.leastPlace,Nat.zero_le _,Int.le_refl _,(mv_zero _).symm⟩).1
 cases s <;>cases t <;>simp only[sg] <;>constructor <;>intro h <;>simp only[Bool.false_eq_true,if_false,if_true] at * <;>grind
theorem Near.trans {k:FloatKind} {a b c:Rat} (h:Near k a b) (h':Near k b c):Near k a c:=fun B hB=>⟨fun h1=>(h' B hB).1 ((h B hB).1 h1),fun h1=>(h' B hB).2 ((h B hB).2 h1)⟩
theorem quot_sides (k:FloatKind) {m n:Nat} {i j:Int} (hn:n≠0) {more q:Nat} {st:Bool} (hmore:k.format.fractionBits+2+n.log2≤more+m.log2) (hq:(m <<< more) / n=q) (hst:((m <<< more) % n != 0)=st) {C:Rat} (hC:Rep0 k C) :
  (mv m i≤C * mv n j→mv (2 * q+st.toNat) (i - j - more - 1)≤C)∧(C * mv n j≤mv m i→C≤mv (2 * q+st.toNat) (i - j - more - 1)):=by
 obtain ⟨-,-,-,-,-,hb⟩:=fmt k
 obtain ⟨M,P,hM,hP,rfl⟩:=hC
 generalize hu:i - j - (more:Int)=u
 rw[Nat.shiftLeft_eq] at hq hst
 generalize hdv:m * 2 ^ more=dv at hq hst
 have hmv:mv m i=mv dv (u+j):=by rw[← hdv,mv_shift];congr 1;omega
 have hdm:=Nat.div_add_mod dv n
 rw[hq] at hdm
 have hml:=Nat.mod_lt dv (Nat.pos_of_ne_zero hn)
 have hstr:(st=true→0<dv % n)∧(st=false→dv % n=0):=by
  rw[← hst]
  constructor <;>intro h <;>simp at h <;>omega
 have hst1:=Bool.toNat_le st
 have h2:∀ c,mv c u=mv (2 * c) (u - 1):=fun c=>by rw[show 2 * c=c * 2 ^ 1 by omega,mv_shift];congr 1;omega
 by_cases hPu:u≤P
 ·have hC:mv M P=mv (M * 2 ^ (P - u).toNat) u:=by rw[mv_shift];congr 1;omega
  rw[hC]
  generalize M * 2 ^ (P - u).toNat=M'
  rw[hmv,← mv_mul,mv_le,mv_le,h2 M',mv_le,mv_le]
  constructor
  ·intro h
   have h3:n * q≤n * M' :=by rw[Nat.mul_comm n M'];omega
   have h4:=Nat.le_of_mul_le_mul_left h3 (Nat.pos_of_ne_zero hn)
   cases st
   ·simp only[Bool.toNat_false];omega
   ·have h5:n * q<n * M' :=by rw[Nat.mul_comm n M'];have:=hstr.1 rfl;omega
    have h6:=Nat.lt_of_mul_lt_mul_left h5
    simp only[Bool.toNat_true];omega
  ·intro h
   have:M'≤q:=by
    rw[← hq];exact (Nat.le_div_iff_mul_le (Nat.pos_of_ne_zero hn)).2 h
   omega
 ·by_cases hm:m=0
  ·subst hm
   have hd0:dv=0:=by rw[← hdv,Nat.zero_mul]
   subst hd0
   have hq0:q=0:=by rw[← hq,Nat.zero_div]
   subst hq0
   have:st=false:=by rw[← hst];simp
   subst this
   simp only[Bool.toNat_false,Nat.mul_zero,Nat.add_zero,mv_zero]
   refine ⟨fun _=>mv_nonneg _ _,fun h => ?_⟩
   rcases Nat.eq_zero_or_pos M with h0 | h0
   ·subst h0;rw[mv_zero];exact Rat.le_refl
   ·exfalso
    rw[← mv_mul] at h
    have h5:mv 0 (P+j)<mv (M * n) (P+j):=mv_lt.2 (Nat.mul_pos h0 (Nat.pos_of_ne_zero hn))
    rw[mv_zero] at h5
    grind
  ·have hdl:2 ^ (k.format.fractionBits+2+n.log2)≤dv:=by
    have h3:2 ^ (m.log2+more)≤dv:=by
     rw[Nat.pow_add,← hdv]
     exact Nat.mul_le_mul_right _ (Nat.log2_self_le hm)
    exact Nat.le_trans (Nat.pow_le_pow_right (by decide) (by omega)) h3
   have hql:2 ^ (k.format.fractionBits+1)≤q:=by
    rw[← hq,Nat.le_div_iff_mul_le (Nat.pos_of_ne_zero hn)]
    have h4:n<2 ^ (n.log2+1):=Nat.lt_log2_self
    have h5:2 ^ (k.format.fractionBits+1) * n≤2 ^ (k.format.fractionBits+1) * 2 ^ (n.log2+1):=Nat.mul_le_mul_left _ (Nat.le_of_lt h4)
    rw[← Nat.pow_add,show k.format.fractionBits+1+(n.log2+1)=k.format.fractionBits+2+n.log2 by omega] at h5
    omega
   have hCu:mv M P≤mv (2 ^ k.format.fractionBits) u:=by
    refine Rat.le_trans (mv_le.2 hM) ?_
    rw[hb,show 2 * 2 ^ k.format.fractionBits=2 ^ (k.format.fractionBits+1) by rw[Nat.pow_succ];omega,mv_pow,mv_pow]
    exact p2_le (by omega)
   have hpw:2 ^ k.format.fractionBits<2 ^ (k.format.fractionBits+1):=by rw[Nat.pow_succ];have:=Nat.two_pow_pos k.format.fractionBits;omega
   have hle:mv M P≤mv (2 * q+st.toNat) (u - 1):=by
    refine Rat.le_trans hCu ?_
    rw[h2,mv_le];omega
   refine ⟨fun h => ?_,fun _=>hle⟩
   exfalso
   have h6:mv M P * mv n j≤mv (2 ^ k.format.fractionBits) u * mv n j:=Rat.mul_le_mul_of_nonneg_right hCu (mv_nonneg _ _)
   have h7:=Rat.le_trans h h6
   rw[hmv,← mv_mul,mv_le] at h7
   have h8:2 ^ (k.format.fractionBits+1) * n≤q * n:=Nat.mul_le_mul_right _ hql
   have h9:2 ^ k.format.fractionBits * n<2 ^ (k.format.fractionBits+1) * n:=Nat.mul_lt_mul_of_pos_right hpw (Nat.pos_of_ne_zero hn)
   rw[Nat.mul_comm q n] at h8
   omega
theorem div_val {k:FloatKind} {x y:Nat} {a b B:Rat} (hx:Val k x a) (hy:Val k y b) (hb:b≠0) (hB:Rep0 k B) (hf:B<p2 (topE k)) (h1:a / b≤B) (h2 : -B≤a / b) :
  ∃ R,Val k (fdiv k x y) R∧Near k (a / b) R:=by
 obtain ⟨s,m,i,e1,rfl,-⟩:=hx
 obtain ⟨t,n,j,e2,rfl,-⟩:=hy
 have e1:k.format.read x = .number s m i:=e1
 have e2:k.format.read y = .number t n j:=e2
 have hn:n≠0:=by
  rintro rfl
  apply hb
  rw[mv_zero];cases t <;>simp[sg]
 generalize hmo:k.format.fractionBits+2+n.log2 - m.log2=more
 generalize hq:(m <<< more) / n=q
 generalize hst:((m <<< more) % n != 0)=st
 have hdiv:fdiv k x y=k.encode (.number (s ^^ t) (2 * q+st.toNat) (i - j - more - 1)):=by
  simp only[fdiv,Ieee.Format.div,e1,e2,Ieee.Datum.quotient,if_neg hn,hmo,hq,hst,Option.map_some]
  rfl
 have hnp:0<mv n j:=by have:=(mv_lt (e:=j)).2 (Nat.pos_of_ne_zero hn);rwa [mv_zero] at this
 have hval:sg s (mv m i) / sg t (mv n j)=sg (s ^^ t) (mv m i / mv n j):=by
  cases s <;>cases t <;>simp[sg] <;>grind
 have hcan:mv m i / mv n j * mv n j=mv m i:=by rw[Rat.div_mul_cancel];grind
 have hQ:0≤mv m i / mv n j:=by
  have h3:=mv_nonneg m i
  rcases Rat.le_total (a:=0) (b:=mv m i / mv n j) with h | h
  ·exact h
  ·have h4:mv m i / mv n j * mv n j≤0 * mv n j:=Rat.mul_le_mul_of_nonneg_right h (Rat.le_of_lt hnp)
   rw[hcan,Rat.zero_mul] at h4
   have h5:mv m i=0:=by grind
   rw[h5,Rat.div_def,Rat.zero_mul];exact Rat.le_refl
 have hside:∀ C,Rep0 k C→(mv m i / mv n j≤C→mv (2 * q+st.toNat) (i - j - more - 1)≤C)∧(C≤mv m i / mv n j→C≤mv (2 * q+st.toNat) (i - j - more - 1)):=by
  intro C hC
  obtain ⟨c1,c2⟩:=quot_sides k (i:=i) (j:=j) hn (by omega) hq hst hC
  constructor
  ·intro h
   have:=Rat.mul_le_mul_of_nonneg_right h (Rat.le_of_lt hnp)
   rw[hcan] at this
   exact c1 this
  ·intro h
   have:=Rat.mul_le_mul_of_nonneg_right h (Rat.le_of_lt hnp)
   rw[hcan] at this
   exact c2 this
 rw[hval] at h1 h2 ⊢
 have hQB:=abs_le hQ h1 h2
 obtain ⟨R,r1,r2⟩:=write_val k (s ^^ t) (2 * q+st.toNat) (i - j - more - 1) hB ((hside B hB).1 hQB) hf
 rw[hdiv]
 exact ⟨R,r1,(near_sg hQ (mv_nonneg _ _) hside _).trans r2⟩
end Go.Desk
end
section
namespace Go.Desk
open Go
theorem read_val {k:FloatKind} {x:Nat} {s:Bool} {m:Nat} {e:Int} (h:k.decode x = .number s m e):Val k x (sg s (mv m e)):=by
 refine ⟨s,m,e,h,rfl,?_⟩
 obtain ⟨K,-,-,-,-,hb⟩:=fmt k
 have hbp:0<k.format.binade:=by rw[hb];exact Nat.two_pow_pos _
 have h:k.format.read x = .number s m e:=h
 unfold Ieee.Format.read at h
 by_cases c1:x % k.format.signWeight<k.format.binade
 ·simp only[if_pos c1] at h
  cases h
  exact ⟨by omega,Int.le_refl _⟩
 ·by_cases c2:x % k.format.signWeight<k.format.infRung
  ·simp only[if_neg c1,if_pos c2] at h
   cases h
   have:=Nat.mod_lt (x % k.format.signWeight) hbp
   exact ⟨by omega,by omega⟩
  ·by_cases c3:x % k.format.signWeight=k.format.infRung
   ·simp only[if_neg c1,if_neg c2,if_pos c3] at h;cases h
   ·simp only[if_neg c1,if_neg c2,if_neg c3] at h;cases h
end Go.Desk
end
section
namespace Go.Desk
open Go
theorem read_norm {k:FloatKind} {x:Nat} {s:Bool} {m:Nat} {e:Int} (h:k.decode x = .number s m e) :
  m<2 * k.format.binade∧k.format.leastPlace≤e∧(k.format.leastPlace<e→k.format.binade≤m)∧x % k.format.signWeight=(e - k.format.leastPlace).toNat * k.format.binade+m∧(x / k.format.signWeight % 2==1)=s:=by
 obtain ⟨K,-,-,-,-,hb⟩:=fmt k
 have hbp:0<k.format.binade:=by rw[hb];exact Nat.two_pow_pos _
 have h:k.format.read x = .number s m e:=h
 unfold Ieee.Format.read at h
 by_cases c1:x % k.format.signWeight<k.format.binade
 ·simp only[if_pos c1] at h
  cases h
  refine ⟨by omega,Int.le_refl _,fun h=>by omega,?_,rfl⟩
  rw[Int.sub_self];simp
 ·by_cases c2:x % k.format.signWeight<k.format.infRung
  ·simp only[if_neg c1,if_pos c2] at h
   cases h
   generalize x % k.format.signWeight=r at *
   generalize hbb:k.format.binade=b at *
   have h1:=Nat.mod_lt r hbp
   have h2:=Nat.div_add_mod r b
   have h3:1≤r / b:=(Nat.le_div_iff_mul_le hbp).2 (by omega)
   refine ⟨by omega,by omega,fun _=>by omega,?_,rfl⟩
   have h4:(k.format.leastPlace+((r / b - 1:Nat):Int) - k.format.leastPlace).toNat=r / b - 1:=by omega
   rw[h4]
   generalize r / b=q at *
   obtain ⟨q,rfl⟩:∃ p,q=p+1:=⟨q - 1,by omega⟩
   rw[Nat.mul_add] at h2
   rw[Nat.add_sub_cancel,Nat.mul_comm q b]
   omega
  ·by_cases c3:x % k.format.signWeight=k.format.infRung
   ·simp only[if_neg c1,if_neg c2,if_pos c3] at h;cases h
   ·simp only[if_neg c1,if_neg c2,if_neg c3] at h;cases h
theorem mv_norm {k:FloatKind} {m m':Nat} {e e':Int} (h1:m<2 * k.format.binade) (h1':m'<2 * k.format.binade) (h2:k.format.leastPlace≤e) (h2':k.format.leastPlace≤e') (h3:k.format.leastPlace<e→k.format.binade≤m) (h3':k.format.leastPlace<e'→k.format.binade≤m') (h:mv m e=mv m' e'):m=m'∧e=e' :=by
 have key:∀ {m m':Nat} {e e':Int},m<2 * k.format.binade→k.format.leastPlace≤e→(k.format.leastPlace<e'→k.format.binade≤m')→mv m e=mv m' e'→¬ e<e' :=by
  intro m m' e e' a1 a2 a3 a4 a5
  have e1:mv m' e'=mv (m' * 2 ^ (e' - e).toNat) e:=by rw[mv_shift];congr 1;omega
  rw[e1] at a4
  have h5:=mv_le.1 (show mv (m' * 2 ^ (e' - e).toNat) e≤mv m e by rw[a4];exact Rat.le_refl)
  have h6:=a3 (by omega)
  have h7:2 ^ 1≤2 ^ (e' - e).toNat:=Nat.pow_le_pow_right (by decide) (by omega)
  have h8:k.format.binade * 2≤m' * 2 ^ (e' - e).toNat:=Nat.mul_le_mul h6 h7
  omega
 have h4:=key h1 h2 h3' h
 have h5:=key h1' h2' h3 h.symm
 have he:e=e' :=by omega
 subst he
 refine ⟨?_,rfl⟩
 have h6:=mv_le.1 (show mv m e≤mv m' e by rw[h];exact Rat.le_refl)
 have h7:=mv_le.1 (show mv m' e≤mv m e by rw[h];exact Rat.le_refl)
 omega
theorem word_inj {k:FloatKind} {x y:Nat} {s:Bool} {m m':Nat} {e e':Int} (hx:x<2 * k.format.signWeight) (hy:y<2 * k.format.signWeight) (h:k.decode x = .number s m e) (h':k.decode y = .number s m' e') (hv:mv m e=mv m' e'):x=y:=by
 obtain ⟨a1,a2,a3,a4,a5⟩:=read_norm h
 obtain ⟨b1,b2,b3,b4,b5⟩:=read_norm h'
 obtain ⟨rfl,rfl⟩:=mv_norm a1 b1 a2 b2 a3 b3 hv
 have hp:0<k.format.signWeight:=by omega
 have h1:x % k.format.signWeight=y % k.format.signWeight:=by rw[a4,b4]
 have q1:x / k.format.signWeight<2:=(Nat.div_lt_iff_lt_mul hp).2 hx
 have q2:y / k.format.signWeight<2:=(Nat.div_lt_iff_lt_mul hp).2 hy
 rw[Nat.mod_eq_of_lt q1] at a5
 rw[Nat.mod_eq_of_lt q2] at b5
 have h2:x / k.format.signWeight=y / k.format.signWeight:=by
  have:(x / k.format.signWeight==1)=(y / k.format.signWeight==1):=by rw[a5,b5]
  generalize x / k.format.signWeight=p at *
  generalize y / k.format.signWeight=q at *
  rcases Nat.lt_or_ge p 1 with c1 | c1 <;>rcases Nat.lt_or_ge q 1 with c2 | c2
  ·omega
  ·obtain rfl:p=0:=by omega
   obtain rfl:q=1:=by omega
   cases this
  ·obtain rfl:p=1:=by omega
   obtain rfl:q=0:=by omega
   cases this
  ·omega
 rw[← Nat.div_add_mod x k.format.signWeight,← Nat.div_add_mod y k.format.signWeight,h1,h2]
theorem nearest_word (f:Ieee.Format) (s:Bool) (m:Nat) (e:Int):f.nearest s m e=f.word s (f.nearest false m e):=by
 unfold Ieee.Format.nearest
 by_cases hm:m=0
 ·rw[if_pos hm,if_pos hm];rfl
 ·rw[if_neg hm,if_neg hm];rfl
theorem nearest_pos_lt (k:FloatKind) (m:Nat) (e:Int):k.format.nearest false m e≤k.format.infRung:=by
 unfold Ieee.Format.nearest
 by_cases hm:m=0
 ·rw[if_pos hm];exact Nat.zero_le _
 ·rw[if_neg hm];exact Nat.min_le_right _ _
theorem word_lt (k:FloatKind) (s:Bool) {r:Nat} (h:r≤k.format.infRung):k.format.word s r<2 * k.format.signWeight:=by
 have:=infRung_lt k
 unfold Ieee.Format.word
 split <;>omega
theorem exact_write (k:FloatKind) (s:Bool) {m:Nat} {e:Int} (h:Rep0 k (mv m e)) (hf:mv m e<p2 (topE k)):∃ m' e',k.decode (k.encode (.number s m e)) = .number s m' e'∧mv m' e'=mv m e:=by
 obtain ⟨m',e',r1,-,-,r4⟩:=round_mag k s m e h Rat.le_refl hf
 obtain ⟨c1,c2⟩:=r4 _ h
 have h1:=c1 Rat.le_refl
 have h2:=c2 Rat.le_refl
 exact ⟨m',e',r1,by grind⟩
def size32 (x:Nat):Nat:=if isNaN .f32 x then qnan .f32 else x % 2147483648
theorem decode_size {x:Nat}:(∀ s m e,FloatKind.f32.decode x = .number s m e→FloatKind.f32.decode (x % 2147483648) = .number false m e)∧(∀ s,FloatKind.f32.decode x = .infinity s→FloatKind.f32.decode (x % 2147483648) = .infinity false):=by
 have hw:FloatKind.f32.format.signWeight=2147483648:=rfl
 have hr:x % 2147483648 % FloatKind.f32.format.signWeight=x % FloatKind.f32.format.signWeight:=by rw[hw,Nat.mod_mod]
 have hs:(x % 2147483648 / FloatKind.f32.format.signWeight % 2==1)=false:=by
  rw[hw,Nat.div_eq_of_lt (Nat.mod_lt _ (by decide))];rfl
 constructor
 ·intro s m e h
  have h:FloatKind.f32.format.read x = .number s m e:=h
  show FloatKind.f32.format.read (x % 2147483648)=_
  unfold Ieee.Format.read at h ⊢
  simp only[hr,hs]
  by_cases c1:x % FloatKind.f32.format.signWeight<FloatKind.f32.format.binade
  ·simp only[if_pos c1] at h ⊢;cases h;rfl
  ·by_cases c2:x % FloatKind.f32.format.signWeight<FloatKind.f32.format.infRung
   ·simp only[if_neg c1,if_pos c2] at h ⊢;cases h;rfl
   ·by_cases c3:x % FloatKind.f32.format.signWeight=FloatKind.f32.format.infRung
    ·simp only[if_neg c1,if_neg c2,if_pos c3] at h;cases h
    ·simp only[if_neg c1,if_neg c2,if_neg c3] at h;cases h
 ·intro s h
  have h:FloatKind.f32.format.read x = .infinity s:=h
  show FloatKind.f32.format.read (x % 2147483648)=_
  unfold Ieee.Format.read at h ⊢
  simp only[hr,hs]
  by_cases c1:x % FloatKind.f32.format.signWeight<FloatKind.f32.format.binade
  ·simp only[if_pos c1] at h;cases h
  ·by_cases c2:x % FloatKind.f32.format.signWeight<FloatKind.f32.format.infRung
   ·simp only[if_neg c1,if_pos c2] at h;cases h
   ·by_cases c3:x % FloatKind.f32.format.signWeight=FloatKind.f32.format.infRung
    ·simp only[if_neg c1,if_neg c2,if_pos c3]
    ·simp only[if_neg c1,if_neg c2,if_neg c3] at h;cases h
theorem val_zero (k:FloatKind):Val k 0 0:=by
 have h:k.decode 0 = .number false 0 k.format.leastPlace:=by cases k <;>decide
 have:=read_val h
 rwa [sg_false,mv_zero] at this
theorem fne_nan (k:FloatKind) (x:Nat):fne k x x=isNaN k x:=by
 rw[fne_feq]
 cases h:isNaN k x
 ·rw[feq_self h];rfl
 ·obtain ⟨s,t,e⟩:=nan_read h
  simp[feq,Ieee.Format.order,e,Ieee.Datum.order]
theorem GoodF.lt32 {x:Nat} (h:GoodF .f32 x):x<4294967296:=by
 have:=h.2
 simpa [Lit.wf] using this
end Go.Desk
end
section
namespace Go.Desk
open Go
theorem br_t {α:Type} (x y:Option α):br true x y=x:=rfl
theorem br_f {α:Type} (x y:Option α):br false x y=y:=rfl
theorem gd_t {α:Type} (x:Option α):gd true x=x:=rfl
theorem bd_s {α β:Type} (a:α) (k:α→Option β):bd (some a) k=k a:=rfl
theorem sm_r {A B γ:Type} (a:B) (f:A→γ) (g:B→γ):sm (.inr a) f g=g a:=rfl
theorem br_not {α:Type} (b:Bool) (x y:Option α):br (!b) x y=br b y x:=by cases b <;>rfl
section
variable {p zs:List Nat} {z:Nat} {k:FloatKind}
theorem fAt_mid:fAt (fls k (p++z::zs)) p.length=z:=by simp[fAt_fls,List.getD]
theorem okAt_mid:okAt [.flt k] (fls k (p++z::zs)) p.length=true:=okAt_fls (by simp)
theorem toNat_len {α:Type} (p:List α):((p.length:Nat):Int).toNat=p.length:=rfl
end
section
variable {p zs:List Int} {z:Int} {k:IntKind}
end
section
variable {α:Type} {p zs:List α} {z:α}
theorem lt_mid:decide ((p.length:Int)<((p++z::zs).length:Int))=true:=by simp;omega
theorem in_mid:decide ((0:Int)≤(p.length:Int)∧(p.length:Int)<((p++z::zs).length:Int))=true:=by simp;omega
theorem lt_end:decide ((p.length:Int)<((p++[]).length:Int))=false:=by simp
theorem wrap_len (h:p.length<4611686018427387904):IntKind.i64.wrap ((p.length:Int)+1)=(((p++[z]).length:Nat):Int):=by rw[wrap_succ (by omega)];simp
theorem push_ok (h:p.length<2147483648):Nat.ble (p.length+1) 2147483648=true:=by rw[Nat.ble_eq];omega
theorem push_len:p.length+1=(p++[z]).length:=by simp
end
theorem push_fls (k:FloatKind) (p:List Nat) (y:Nat):fls k p++setN (reps 1 [T.flt k 0]) 0 [T.flt k y]=fls k (p++[y]):=by simp[fls,setN,reps]
def W32 (x:Nat):Prop:=x<4294967296∧canon .f32 x=x
theorem GoodF.w32 {x:Nat} (h:GoodF .f32 x):W32 x:=⟨h.lt32,h.1⟩
theorem w32_qnan:W32 (qnan .f32):=⟨by decide,by decide⟩
theorem write_lt (k:FloatKind) {d:Ieee.Datum} (h:∀ s t,d ≠ .nan s t):k.format.write d<2 * k.format.signWeight:=by
 cases d with
 | nan s t=>exact absurd rfl (h s t)
 | infinity s=>exact word_lt k s (Nat.le_refl _)
 | number s m e =>
   show k.format.nearest s m e<_
   rw[nearest_word]
   exact word_lt k s (nearest_pos_lt k m e)
theorem w32_write {d:Ieee.Datum} (h:∀ s t,d ≠ .nan s t):W32 (FloatKind.f32.format.write d):=⟨write_lt .f32 h,canon_num (write_num h)⟩
theorem w32_fadd (x y:Nat):W32 (fadd .f32 x y):=by
 unfold fadd Ieee.Format.add
 cases h:(FloatKind.f32.format.read x).sum (FloatKind.f32.format.read y) with
 | none=>exact w32_qnan
 | some d=>exact w32_write (fun s t e=>sum_not_nan h s t e)
theorem w32_fmul (x y:Nat):W32 (fmul .f32 x y):=by
 unfold fmul Ieee.Format.mul
 cases h:(FloatKind.f32.format.read x).product (FloatKind.f32.format.read y) with
 | none=>exact w32_qnan
 | some d=>exact w32_write (fun s t e=>product_not_nan h s t e)
theorem w32_fdiv (x y:Nat):W32 (fdiv .f32 x y):=by
 unfold fdiv Ieee.Format.div
 cases h:(FloatKind.f32.format.read x).quotient (FloatKind.f32.format.fractionBits+2) (FloatKind.f32.format.read y) with
 | none=>exact w32_qnan
 | some d=>exact w32_write (fun s t e=>quotient_not_nan h s t e)
theorem w32_canon {x:Nat} (h:x<4294967296):W32 (canon .f32 x):=by
 unfold canon
 split
 ·exact w32_qnan
 ·rename_i hn
  exact ⟨h,by rw[canon_num (by simpa using hn)]⟩
theorem w32_zero:W32 0:=⟨by decide,by decide⟩
def Bytes (bs:List Int):Prop:=∀ b∈bs,0≤b∧b≤255
theorem bytes_of {bs:List Int} (h:∀ b∈bs,GoodI .u8 b):Bytes bs:=fun b hb=>by
 have:=h b hb
 unfold GoodI at this
 have e1:IntKind.u8.min=0:=by decide
 have e2:IntKind.u8.max=255:=by decide
 omega
theorem u64_wrap_nat (n:Nat):IntKind.u64.wrap (n:Int)=(n:Int) % 18446744073709551616:=by simp[IntKind.wrap,IntKind.bits,IntKind.signed]
theorem u32_wrap {i:Int} (h0:0≤i) (h1:i<4294967296):IntKind.u32.wrap i=i:=by
 rw[show IntKind.u32.wrap i=i % 4294967296 by simp[IntKind.wrap,IntKind.bits,IntKind.signed]]
 omega
theorem and255 (x:Int):0≤IntKind.i64.wrap (intBits BinOp.and IntKind.u64 x 255)∧IntKind.i64.wrap (intBits BinOp.and IntKind.u64 x 255)≤255:=by
 have h:(BitVec.ofInt 64 x &&& BitVec.ofInt 64 255).toNat≤255:=by
  rw[BitVec.toNat_and,show (BitVec.ofInt 64 255).toNat=255 by decide]
  exact Nat.and_le_right
 have e:intBits BinOp.and IntKind.u64 x 255=(((BitVec.ofInt 64 x &&& BitVec.ofInt 64 255).toNat:Nat):Int):=by
  show IntKind.u64.wrap (((BitVec.ofInt 64 x &&& BitVec.ofInt 64 255).toNat:Nat):Int)=_
  rw[u64_wrap_nat];omega
 rw[e,wrap64] <;>omega
def Plain (x:Nat):Prop:=∃ m:Int,(-64≤m∧m≤64)∧(x=fdiv .f32 (FloatKind.f32.nearest m) 1088421888∨x=fdiv .f32 (FloatKind.f32.nearest m) 1098907648)
theorem Plain.w32 {x:Nat} (h:Plain x):W32 x:=by
 obtain ⟨m,-,rfl | rfl⟩:=h <;>exact w32_fdiv _ _
section
variable {σ α β:Type}
end
end Go.Desk
end
section
namespace Go.Desk
open Go
def magOf (k:FloatKind) (x:Nat):Nat:=x % k.format.signWeight
def negOf (k:FloatKind) (x:Nat):Bool:=x / k.format.signWeight % 2==1
def key (k:FloatKind) (x:Nat):Int:=if negOf k x then -(magOf k x:Int) else (magOf k x:Int)
theorem binade_pos (k:FloatKind):0<k.format.binade:=by cases k <;>decide
theorem read_inf {k:FloatKind} {x:Nat} {s:Bool} (h:k.decode x = .infinity s):magOf k x=k.format.infRung∧negOf k x=s:=by
 have h:k.format.read x = .infinity s:=h
 unfold Ieee.Format.read at h
 by_cases c1:x % k.format.signWeight<k.format.binade
 ·simp only[if_pos c1] at h;cases h
 ·by_cases c2:x % k.format.signWeight<k.format.infRung
  ·simp only[if_neg c1,if_pos c2] at h;cases h
  ·by_cases c3:x % k.format.signWeight=k.format.infRung
   ·simp only[if_neg c1,if_neg c2,if_pos c3] at h;cases h;exact ⟨c3,rfl⟩
   ·simp only[if_neg c1,if_neg c2,if_neg c3] at h;cases h
theorem read_fin {k:FloatKind} {x:Nat} {s:Bool} {m:Nat} {e:Int} (h:k.decode x = .number s m e):magOf k x<k.format.infRung∧negOf k x=s:=by
 refine ⟨?_,(read_norm h).2.2.2.2⟩
 have h:k.format.read x = .number s m e:=h
 unfold Ieee.Format.read at h
 have hb:k.format.binade<k.format.infRung:=by cases k <;>decide
 by_cases c1:x % k.format.signWeight<k.format.binade
 ·unfold magOf;omega
 ·by_cases c2:x % k.format.signWeight<k.format.infRung
  ·exact c2
  ·by_cases c3:x % k.format.signWeight=k.format.infRung
   ·simp only[if_neg c1,if_neg c2,if_pos c3] at h;cases h
   ·simp only[if_neg c1,if_neg c2,if_neg c3] at h;cases h
theorem mag_lt {k:FloatKind} {x y:Nat} {s t:Bool} {m n:Nat} {i j:Int} (h:k.decode x = .number s m i) (h':k.decode y = .number t n j) (hl:magOf k x<magOf k y):mv m i<mv n j:=by
 obtain ⟨a1,a2,a3,a4,-⟩:=read_norm h
 obtain ⟨b1,b2,b3,b4,-⟩:=read_norm h'
 unfold magOf at hl
 rw[a4,b4] at hl
 have hB:=binade_pos k
 generalize k.format.binade=B at *
 generalize k.format.leastPlace=L at *
 rcases Int.lt_trichotomy i j with hij | rfl | hij
 ·have e1:mv n j=mv (n * 2 ^ (j - i).toNat) i:=by rw[mv_shift];congr 1;omega
  rw[e1,mv_lt]
  have h6:=b3 (by omega)
  have h7:2 ^ 1≤2 ^ (j - i).toNat:=Nat.pow_le_pow_right (by decide) (by omega)
  have h8:B * 2≤n * 2 ^ (j - i).toNat:=Nat.mul_le_mul h6 h7
  omega
 ·rw[mv_lt];omega
 ·exfalso
  have h6:=a3 (by omega)
  have:(i - L).toNat=(j - L).toNat+(i - j).toNat:=by omega
  rw[this,Nat.add_mul] at hl
  have:B≤(i - j).toNat * B:=Nat.le_mul_of_pos_left B (by omega)
  omega
theorem mag_eq {k:FloatKind} {x y:Nat} {s t:Bool} {m n:Nat} {i j:Int} (h:k.decode x = .number s m i) (h':k.decode y = .number t n j) (hl:magOf k x=magOf k y):mv m i=mv n j:=by
 obtain ⟨a1,a2,a3,a4,-⟩:=read_norm h
 obtain ⟨b1,b2,b3,b4,-⟩:=read_norm h'
 unfold magOf at hl
 rw[a4,b4] at hl
 have hB:=binade_pos k
 generalize k.format.binade=B at *
 generalize k.format.leastPlace=L at *
 have:i=j:=by
  rcases Int.lt_trichotomy i j with hij | e | hij
  ·exfalso
   have h6:=b3 (by omega)
   have:(j - L).toNat=(i - L).toNat+(j - i).toNat:=by omega
   rw[this,Nat.add_mul] at hl
   have:B≤(j - i).toNat * B:=Nat.le_mul_of_pos_left B (by omega)
   omega
  ·exact e
  ·exfalso
   have h6:=a3 (by omega)
   have:(i - L).toNat=(j - L).toNat+(i - j).toNat:=by omega
   rw[this,Nat.add_mul] at hl
   have:B≤(i - j).toNat * B:=Nat.le_mul_of_pos_left B (by omega)
   omega
 subst this
 have:m=n:=by omega
 rw[this]
theorem mag_zero {k:FloatKind} {x:Nat} {s:Bool} {m:Nat} {i:Int} (h:k.decode x = .number s m i):(magOf k x=0↔mv m i=0):=by
 obtain ⟨a1,a2,a3,a4,-⟩:=read_norm h
 have hB:=binade_pos k
 unfold magOf
 rw[a4]
 constructor
 ·intro h0
  have:m=0:=by omega
  rw[this,mv_zero]
 ·intro h0
  have hm:m=0:=by
   rcases Nat.eq_zero_or_pos m with e | e
   ·exact e
   ·have h1:mv 0 i<mv m i:=mv_lt.2 e
    rw[mv_zero,h0] at h1
    exact absurd h1 (by decide)
  subst hm
  have:¬ k.format.leastPlace<i:=fun h1=>by have:=a3 h1;omega
  have:(i - k.format.leastPlace).toNat=0:=by omega
  rw[this];simp
theorem compare_int (a b:Int):(a<b∧compare a b = .lt)∨(a=b∧compare a b = .eq)∨(b<a∧compare a b = .gt):=by
 rcases Int.lt_trichotomy a b with h1 | h1 | h1
 ·exact .inl ⟨h1,by simp[compare,compareOfLessAndEq,h1]⟩
 ·subst h1;exact .inr (.inl ⟨rfl,by simp[compare,compareOfLessAndEq]⟩)
 ·exact .inr (.inr ⟨h1,by simp only[compare,compareOfLessAndEq];rw[if_neg (by omega),if_neg (by omega)]⟩)
theorem key_lt_val {k:FloatKind} {x y:Nat} {s t:Bool} {m n:Nat} {i j:Int} (h:k.decode x = .number s m i) (h':k.decode y = .number t n j) (hl:key k x<key k y):sg s (mv m i)<sg t (mv n j):=by
 have hs:=(read_fin h).2
 have ht:=(read_fin h').2
 unfold key at hl
 rw[hs,ht] at hl
 have z1:=mag_zero h
 have z2:=mag_zero h'
 have p1:=mv_nonneg m i
 have p2:=mv_nonneg n j
 cases s <;>cases t <;>simp only[Bool.false_eq_true,if_false,if_true,sg] at hl ⊢
 ·exact mag_lt h h' (by omega)
 ·omega
 ·rcases Nat.eq_zero_or_pos (magOf k y) with e | e
  ·have:0<magOf k x:=by omega
   have:mv m i≠0:=fun h0=>by rw[z1.2 h0] at this;omega
   have h0:=z2.1 e
   rw[h0];grind
  ·have:mv n j≠0:=fun h0=>by rw[z2.2 h0] at e;omega
   grind
 ·have:=mag_lt h' h (by omega)
  grind
theorem key_eq_val {k:FloatKind} {x y:Nat} {s t:Bool} {m n:Nat} {i j:Int} (h:k.decode x = .number s m i) (h':k.decode y = .number t n j) (hl:key k x=key k y):sg s (mv m i)=sg t (mv n j):=by
 have hs:=(read_fin h).2
 have ht:=(read_fin h').2
 unfold key at hl
 rw[hs,ht] at hl
 have z1:=mag_zero h
 have z2:=mag_zero h'
 cases s <;>cases t <;>simp only[Bool.false_eq_true,if_false,if_true,sg] at hl ⊢
 ·exact mag_eq h h' (by omega)
 ·rw[z1.1 (by omega),z2.1 (by omega)];rfl
 ·rw[z1.1 (by omega),z2.1 (by omega)];rfl
 ·rw[mag_eq h h' (by omega)]
theorem order_key {k:FloatKind} {x y:Nat} (hx:isNaN k x=false) (hy:isNaN k y=false):k.format.order x y=some (compare (key k x) (key k y)):=by
 have inf_pos:∀ {z:Nat} {s:Bool},k.decode z = .infinity s→key k z=if s then -(k.format.infRung:Int) else (k.format.infRung:Int):=by
  intro z s h
  obtain ⟨h1,h2⟩:=read_inf h
  unfold key;rw[h1,h2]
 have fin_lt:∀ {z:Nat} {s:Bool} {m:Nat} {e:Int},k.decode z = .number s m e → -(k.format.infRung:Int)<key k z∧key k z<(k.format.infRung:Int):=by
  intro z s m e h
  obtain ⟨h1,h2⟩:=read_fin h
  unfold key;rw[h2]
  cases s <;>simp only[Bool.false_eq_true,if_false,if_true] <;>omega
 have hI:(0:Int)<(k.format.infRung:Int):=by cases k <;>decide
 have lt_c:∀ a b:Int,a<b→compare a b = .lt:=fun a b h=>by rcases compare_int a b with ⟨h1,e⟩ | ⟨h1,e⟩ | ⟨h1,e⟩ <;>first | exact e | omega
 have gt_c:∀ a b:Int,b<a→compare a b = .gt:=fun a b h=>by rcases compare_int a b with ⟨h1,e⟩ | ⟨h1,e⟩ | ⟨h1,e⟩ <;>first | exact e | omega
 have eq_c:∀ a b:Int,a=b→compare a b = .eq:=fun a b h=>by rcases compare_int a b with ⟨h1,e⟩ | ⟨h1,e⟩ | ⟨h1,e⟩ <;>first | exact e | omega
 unfold isNaN at hx hy
 cases h1:k.decode x with
 | nan s f=>rw[h1] at hx;simp[Ieee.Datum.isNaN] at hx
 | infinity s =>
   cases h2:k.decode y with
   | nan s f=>rw[h2] at hy;simp[Ieee.Datum.isNaN] at hy
   | infinity t =>
     have e1:k.format.read x = .infinity s:=h1
     have e2:k.format.read y = .infinity t:=h2
     simp only[Ieee.Format.order,e1,e2,Ieee.Datum.order]
     rw[inf_pos h1,inf_pos h2]
     cases s <;>cases t <;>simp only[Bool.false_eq_true,if_false,if_true]
     ·rw[eq_c _ _ rfl];rfl
     ·rw[gt_c _ _ (by omega)];rfl
     ·rw[lt_c _ _ (by omega)];rfl
     ·rw[eq_c _ _ rfl];rfl
   | number t n j =>
     have e1:k.format.read x = .infinity s:=h1
     have e2:k.format.read y = .number t n j:=h2
     have:=fin_lt h2
     simp only[Ieee.Format.order,e1,e2,Ieee.Datum.order]
     rw[inf_pos h1]
     cases s <;>simp only[Bool.false_eq_true,if_false,if_true]
     ·rw[gt_c _ _ (by omega)]
     ·rw[lt_c _ _ (by omega)]
 | number s m i =>
   cases h2:k.decode y with
   | nan s f=>rw[h2] at hy;simp[Ieee.Datum.isNaN] at hy
   | infinity t =>
     have e1:k.format.read x = .number s m i:=h1
     have e2:k.format.read y = .infinity t:=h2
     have:=fin_lt h1
     simp only[Ieee.Format.order,e1,e2,Ieee.Datum.order]
     rw[inf_pos h2]
     cases t <;>simp only[Bool.false_eq_true,if_false,if_true]
     ·rw[lt_c _ _ (by omega)]
     ·rw[gt_c _ _ (by omega)]
   | number t n j =>
     obtain ⟨o1,o2,o3⟩:=order_val (read_val h1) (read_val h2)
     rcases compare_int (key k x) (key k y) with ⟨h3,e⟩ | ⟨h3,e⟩ | ⟨h3,e⟩
     ·rw[e];exact o1.2 (key_lt_val h1 h2 h3)
     ·rw[e];exact o2.2 (key_eq_val h1 h2 h3)
     ·rw[e];exact o3.2 (key_lt_val h2 h1 h3)
section
variable {k:FloatKind} {x y:Nat}
theorem order_nan (h:isNaN k x=true∨isNaN k y=true):k.format.order x y=none:=by
 unfold isNaN FloatKind.decode at h
 unfold Ieee.Format.order
 rcases h with h | h
 ·cases hr:k.format.read x with
  | nan s t=>simp[Ieee.Datum.order]
  | infinity s=>rw[hr] at h;cases h
  | number s m e=>rw[hr] at h;cases h
 ·cases hr:k.format.read y with
  | nan s t=>cases k.format.read x <;>simp[Ieee.Datum.order]
  | infinity s=>rw[hr] at h;cases h
  | number s m e=>rw[hr] at h;cases h
def num2 (k:FloatKind) (x y:Nat):Bool:=!isNaN k x && !isNaN k y
theorem order_num2:k.format.order x y=if num2 k x y then some (compare (key k x) (key k y)) else none:=by
 unfold num2
 cases hx:isNaN k x
 ·cases hy:isNaN k y
  ·exact order_key hx hy
  ·exact order_nan (.inr hy)
 ·exact order_nan (.inl hx)
theorem feq_key:feq k x y=(num2 k x y&&decide (key k x=key k y)):=by
 unfold feq
 rw[order_num2]
 cases num2 k x y
 ·rfl
 ·rcases compare_int (key k x) (key k y) with ⟨h,e⟩ | ⟨h,e⟩ | ⟨h,e⟩ <;>rw[if_pos rfl,e] <;>simp <;>omega
theorem fle_key:fle k x y=(num2 k x y&&decide (key k x≤key k y)):=by
 unfold fle
 rw[order_num2]
 cases num2 k x y
 ·rfl
 ·rcases compare_int (key k x) (key k y) with ⟨h,e⟩ | ⟨h,e⟩ | ⟨h,e⟩ <;>rw[if_pos rfl,e] <;>simp <;>omega
theorem fge_key:fge k x y=(num2 k x y&&decide (key k y≤key k x)):=by
 unfold fge
 rw[order_num2]
 cases num2 k x y
 ·rfl
 ·rcases compare_int (key k x) (key k y) with ⟨h,e⟩ | ⟨h,e⟩ | ⟨h,e⟩ <;>rw[if_pos rfl,e] <;>simp <;>omega
end
theorem key32 {x:Nat} (h:x<4294967296):key .f32 x=if x<2147483648 then (x:Int) else -((x:Int) - 2147483648):=by
 have hw:FloatKind.f32.format.signWeight=2147483648:=rfl
 unfold key negOf magOf
 rw[hw]
 by_cases c:x<2147483648
 ·rw[if_pos c,Nat.div_eq_of_lt c,Nat.mod_eq_of_lt c];rfl
 ·have:x / 2147483648=1:=by omega
  rw[if_neg c,this,if_pos (by decide)]
  omega
theorem nan32 {x:Nat}:isNaN .f32 x=decide (2139095040<x % 2147483648):=isNaN_f32 x
end Go.Desk
end
section
namespace Go.Desk
open Go
def flushM (x:Nat):Nat:=if x % 2147483648<8388608 then x / 2147483648 * 2147483648 else x
abbrev Filt:=Nat × Nat × Nat × Nat × Nat
abbrev Mem:=Nat × Nat × Nat × Nat
def fl? (b:Bool) (x:Nat):Nat:=if b then flushM x else x
def fstep (f:Filt) (form:Int) (b:Bool) (m:Mem) (x:Nat):Nat × Mem :=
 if form=0 then
  let y:=fl? b (fsub .f32 (fsub .f32 (fadd .f32 (fadd .f32 (fmul .f32 f.1 x) (fmul .f32 f.2.1 m.1)) (fmul .f32 f.2.2.1 m.2.1)) (fmul .f32 f.2.2.2.1 m.2.2.1)) (fmul .f32 f.2.2.2.2 m.2.2.2))
  (y,fl? b x,fl? b m.1,fl? b y,fl? b m.2.2.1)
 else if form=1 then
  let y:=fl? b (fadd .f32 (fmul .f32 f.1 x) m.1)
  (y,fl? b (fadd .f32 (fsub .f32 (fmul .f32 f.2.1 x) (fmul .f32 f.2.2.2.1 y)) m.2.1),fl? b (fsub .f32 (fmul .f32 f.2.2.1 x) (fmul .f32 f.2.2.2.2 y)),fl? b 0,fl? b 0)
 else
  let w:=fl? b (fsub .f32 (fsub .f32 x (fmul .f32 f.2.2.2.1 m.1)) (fmul .f32 f.2.2.2.2 m.2.1))
  (fl? b (fadd .f32 (fadd .f32 (fmul .f32 f.1 w) (fmul .f32 f.2.1 m.1)) (fmul .f32 f.2.2.1 m.2.1)),fl? b w,fl? b m.1,fl? b 0,fl? b 0)
section
variable {σ α β:Type} {f:σ→α→β × σ} {P:σ→Prop} {Q:α→Prop} {S:β→Prop}
end
end Go.Desk
end
section
namespace Go.Desk
open Go
section
variable {p zs:List (Int × Nat)} {z:Int × Nat}
end
def tookM (w:List Nat) (x:Nat):List Nat:=w.drop 1++[x]
end Go.Desk
end
section
namespace Go.Desk
open Go
def fin32 (x:Nat):Bool:=decide (x % 2147483648<2139095040)
theorem fin_num {x:Nat} (h:fin32 x=true):isNaN .f32 x=false:=by
 unfold fin32 at h;rw[nan32];simp at h ⊢;omega
theorem fin_read {x:Nat} (h:fin32 x=true):∃ s m e,FloatKind.f32.decode x = .number s m e:=by
 cases hd:FloatKind.f32.decode x with
 | number s m e=>exact ⟨s,m,e,rfl⟩
 | infinity s =>
   have h1:=(read_inf hd).1
   unfold fin32 at h
   have e1:FloatKind.f32.format.infRung=2139095040:=by decide
   have e2:magOf .f32 x=x % 2147483648:=rfl
   simp at h
   omega
 | nan s t =>
   have:=fin_num h
   unfold isNaN at this
   rw[hd] at this;cases this
theorem fsub_self {x:Nat} (h:fin32 x=true):fsub .f32 x x=0:=by
 obtain ⟨s,m,e,hd⟩:=fin_read h
 have hd:FloatKind.f32.format.read x = .number s m e:=hd
 unfold fsub Ieee.Format.sub
 rw[hd]
 simp only[Ieee.Datum.opposite,Ieee.Datum.sum]
 have e0:Ieee.signed s m (e - min e e).toNat+Ieee.signed (!s) m (e - min e e).toNat=0:=by
  unfold Ieee.signed
  cases s <;>simp <;>omega
 rw[e0]
 cases s <;>rfl
theorem sub_finite (x:Nat):feq .f32 (fsub .f32 x x) 0=fin32 x:=by
 cases h:fin32 x
 ·
  have hN:isNaN .f32 (fsub .f32 x x)=true:=by
   cases hd:FloatKind.f32.decode x with
   | number s m e =>
     have h1:=(read_fin hd).1
     have e1:FloatKind.f32.format.infRung=2139095040:=by decide
     have e2:magOf .f32 x=x % 2147483648:=rfl
     unfold fin32 at h
     simp at h
     omega
   | infinity s =>
     have hd:FloatKind.f32.format.read x = .infinity s:=hd
     unfold fsub Ieee.Format.sub
     rw[hd]
     cases s <;>decide
   | nan s t =>
     have hd:FloatKind.f32.format.read x = .nan s t:=hd
     unfold fsub Ieee.Format.sub
     rw[hd]
     simp only[Ieee.Datum.sum,Option.map_none]
     decide
  rw[feq_key];unfold num2;rw[hN];rfl
 ·rw[fsub_self h];decide
end Go.Desk
end
section
namespace Go.Desk
open Go
theorem sub_val {k:FloatKind} {x y:Nat} {a b B:Rat} (hx:Val k x a) (hy:Val k y b) (hB:Rep0 k B) (hf:B<p2 (topE k)) (h1:a - b≤B) (h2 : -B≤a - b) :
  ∃ R,Val k (fsub k x y) R∧Near k (a - b) R:=by
 obtain ⟨s,m,i,e1,rfl,-⟩:=hx
 obtain ⟨t,n,j,e2,rfl,-⟩:=hy
 have e1:k.format.read x = .number s m i:=e1
 have e2:k.format.read y = .number t n j:=e2
 generalize hb:min i j=base
 generalize ht:Ieee.signed s m (i - base).toNat+Ieee.signed (!t) n (j - base).toNat=total
 have hadd:fsub k x y=k.encode (.number (if total=0 then s && !t else total<0) total.natAbs base):=by
  simp only[fsub,Ieee.Format.sub,e1,e2,Ieee.Datum.opposite,Ieee.Datum.sum,Option.map_some,hb,ht]
  rfl
 have hneg:sg (!t) (mv n j) = -sg t (mv n j):=by cases t <;>simp[sg]
 have hval:sg (if total=0 then s && !t else decide (total<0)) (mv total.natAbs base)=sg s (mv m i) - sg t (mv n j):=by
  rw[Rat.sub_eq_add_neg,← hneg,total_val,← ht,Rat.intCast_add,Rat.add_mul,signed_val,signed_val]
  congr 2 <;>congr 1 <;>omega
 rw[hadd,← hval]
 exact write_val k _ _ _ hB (abs_le (mv_nonneg _ _) (by rw[hval];exact h1) (by rw[hval];exact h2)) hf
theorem write_lt2 (k:FloatKind) (s:Bool) (m:Nat) (e:Int):k.encode (.number s m e)<2 * k.format.signWeight:=write_lt k (by intro _ _ h;cases h)
theorem fadd_lt (k:FloatKind) (x y:Nat):fadd k x y<2 * k.format.signWeight:=by
 unfold fadd Ieee.Format.add
 cases h:(k.format.read x).sum (k.format.read y) with
 | none=>cases k <;>decide
 | some d=>exact write_lt k (fun s t e=>sum_not_nan h s t e)
theorem fmul_lt (k:FloatKind) (x y:Nat):fmul k x y<2 * k.format.signWeight:=by
 unfold fmul Ieee.Format.mul
 cases h:(k.format.read x).product (k.format.read y) with
 | none=>cases k <;>decide
 | some d=>exact write_lt k (fun s t e=>product_not_nan h s t e)
theorem nearest_lt (k:FloatKind) (n:Int):k.nearest n<2 * k.format.signWeight:=write_lt2 k _ _ _
theorem word_of_val {k:FloatKind} {x y:Nat} {a:Rat} (hx:x<2 * k.format.signWeight) (hy:y<2 * k.format.signWeight) (h1:Val k x a) (h2:Val k y a) (ha:a≠0):x=y:=by
 obtain ⟨s,m,i,e1,h3,-⟩:=h1
 obtain ⟨t,n,j,e2,h4,-⟩:=h2
 have p1:=mv_nonneg m i
 have p2:=mv_nonneg n j
 have hst:s=t:=by
  cases s <;>cases t <;>simp only[sg_true,sg_false] at h3 h4 <;>first | rfl | (exfalso;grind)
 subst hst
 refine word_inj hx hy e1 e2 ?_
 cases s <;>simp only[sg_true,sg_false] at h3 h4 <;>grind
theorem rep_nat (k:FloatKind) {B:Nat} (hB:B≤2 * k.format.binade):Rep0 k (B:Rat):=by
 refine ⟨B,0,hB,by cases k <;>decide,?_⟩
 unfold mv;rw[p2_zero,Rat.mul_one]
theorem nat_top (k:FloatKind) {B:Nat} (hB:B≤2 * k.format.binade):(B:Rat)<p2 (topE k):=by
 have h1:(B:Rat)≤((2 * k.format.binade:Nat):Rat):=by exact_mod_cast hB
 have h2:((2 * k.format.binade:Nat):Rat)<p2 (topE k):=by
  have:∃ j:Nat,2 * k.format.binade=2 ^ j∧(j:Int)<topE k:=by
   cases k
   ·exact ⟨24,by decide,by decide⟩
   ·exact ⟨53,by decide,by decide⟩
  obtain ⟨j,e,h⟩:=this
  rw[e,← p2_nat]
  exact p2_lt h
 exact rlt h1 h2
theorem int_rep {k:FloatKind} {n:Int} (hn:n.natAbs≤2 * k.format.binade):Rep k (n:Rat):=(int_val hn).rep
theorem int_abs {n:Int}:(n:Rat)≤((n.natAbs:Nat):Rat) ∧ -((n.natAbs:Nat):Rat)≤(n:Rat):=by
 have h1:n≤((n.natAbs:Nat):Int):=by omega
 have h2 : -((n.natAbs:Nat):Int)≤n:=by omega
 have e:((n.natAbs:Nat):Rat)=(((n.natAbs:Nat):Int):Rat):=(Rat.intCast_natCast _).symm
 rw[e]
 refine ⟨Rat.intCast_le_intCast.2 h1,?_⟩
 rw[← Rat.intCast_neg]
 exact Rat.intCast_le_intCast.2 h2
theorem nearest_zero (k:FloatKind):k.nearest 0=0:=by cases k <;>decide
theorem int_add {k:FloatKind} {a b:Int} (ha:a.natAbs≤2 * k.format.binade) (hb:b.natAbs≤2 * k.format.binade) (hab:(a+b).natAbs≤2 * k.format.binade):fadd k (k.nearest a) (k.nearest b)=k.nearest (a+b):=by
 have va:=int_val (k:=k) ha
 have vb:=int_val (k:=k) hb
 by_cases h0:a+b=0
 ·rw[h0,nearest_zero]
  obtain ⟨s,m,i,e1,h1,-⟩:=va
  obtain ⟨t,n,j,e2,h2,-⟩:=vb
  have p1:=mv_nonneg m i
  have p2' :=mv_nonneg n j
  have hbv:(b:Rat) = -(a:Rat):=by
   have:b = -a:=by omega
   rw[this,Rat.intCast_neg]
  have hst:(s&&t)=false:=by
   by_cases h:a=0
   ·subst h
    rw[nearest_zero] at e1
    have:k.decode 0 = .number false 0 k.format.leastPlace:=by cases k <;>decide
    rw[this] at e1
    cases e1;rfl
   ·have hne:(a:Rat)≠0:=by exact_mod_cast h
    cases s <;>cases t <;>simp only[sg_true,sg_false] at h1 h2 <;>first | rfl | (exfalso;grind)
  have e1:k.format.read (k.nearest a) = .number s m i:=e1
  have e2:k.format.read (k.nearest b) = .number t n j:=e2
  generalize hbase:min i j=base
  have ht:Ieee.signed s m (i - base).toNat+Ieee.signed t n (j - base).toNat=0:=by
   have h3:((Ieee.signed s m (i - base).toNat+Ieee.signed t n (j - base).toNat:Int):Rat) * p2 base=0:=by
    rw[Rat.intCast_add,Rat.add_mul,signed_val,signed_val]
    rw[show base+((i - base).toNat:Int)=i by omega,show base+((j - base).toNat:Int)=j by omega,← h1,← h2,hbv]
    grind
   have h4:=p2_pos base
   have h5:((Ieee.signed s m (i - base).toNat+Ieee.signed t n (j - base).toNat:Int):Rat)=0:=by
    rcases Rat.mul_eq_zero.1 h3 with h | h
    ·exact h
    ·rw[h] at h4;exact absurd h4 (by decide)
   exact_mod_cast h5
  simp only[fadd,Ieee.Format.add,e1,e2,Ieee.Datum.sum,Option.map_some,hbase,ht,hst]
  rfl
 ·have hv:(a:Rat)+(b:Rat)=((a+b:Int):Rat):=(Rat.intCast_add _ _).symm
  obtain ⟨h1,h2⟩:=int_abs (n:=a+b)
  obtain ⟨R,h3,h4⟩:=add_val va vb (rep_nat k hab) (nat_top k hab) (by rw[hv];exact h1) (by rw[hv];exact h2)
  rw[hv] at h4
  have h5:=h3.near_eq h4 (int_rep hab)
  exact word_of_val (fadd_lt _ _ _) (nearest_lt _ _) h5 (int_val hab) (by exact_mod_cast h0)
def Bd (k:FloatKind) (x:Nat) (B:Nat):Prop:=∃ v:Rat,Val k x v ∧ -(B:Rat)≤v∧v≤(B:Rat)
theorem Near.bd {k:FloatKind} {v R:Rat} {B:Nat} (h:Near k v R) (hB:B≤2 * k.format.binade) (h1:v≤(B:Rat)) (h2 : -(B:Rat)≤v) : -(B:Rat)≤R∧R≤(B:Rat) :=
 ⟨(h _ (rep_nat k hB).neg).2 h2,(h _ (rep_nat k hB).rep).1 h1⟩
theorem Bd.add {k:FloatKind} {x y A B:Nat} (hx:Bd k x A) (hy:Bd k y B) (h:A+B≤2 * k.format.binade):Bd k (fadd k x y) (A+B):=by
 obtain ⟨v,h1,h2,h3⟩:=hx
 obtain ⟨w,h4,h5,h6⟩:=hy
 have e:=Rat.natCast_add A B
 have g1:v+w≤((A+B:Nat):Rat):=by rw[e];grind
 have g2 : -((A+B:Nat):Rat)≤v+w:=by rw[e];grind
 obtain ⟨R,q1,q2⟩:=add_val h1 h4 (rep_nat k h) (nat_top k h) g1 g2
 exact ⟨R,q1,q2.bd h g1 g2⟩
theorem Bd.sub {k:FloatKind} {x y A B:Nat} (hx:Bd k x A) (hy:Bd k y B) (h:A+B≤2 * k.format.binade):Bd k (fsub k x y) (A+B):=by
 obtain ⟨v,h1,h2,h3⟩:=hx
 obtain ⟨w,h4,h5,h6⟩:=hy
 have e:=Rat.natCast_add A B
 have g1:v - w≤((A+B:Nat):Rat):=by rw[e];grind
 have g2 : -((A+B:Nat):Rat)≤v - w:=by rw[e];grind
 obtain ⟨R,q1,q2⟩:=sub_val h1 h4 (rep_nat k h) (nat_top k h) g1 g2
 exact ⟨R,q1,q2.bd h g1 g2⟩
theorem mul_between {v w A B:Rat} (hA:0≤A) (hB:0≤B) (h1 : -A≤v) (h2:v≤A) (h3 : -B≤w) (h4:w≤B) : -(A * B)≤v * w∧v * w≤A * B:=by
 have key:∀ v w:Rat,0≤v→0≤w→v≤A→w≤B→0≤v * w∧v * w≤A * B:=fun v w a b c d =>
  ⟨Rat.mul_nonneg a b,Rat.le_trans (Rat.mul_le_mul_of_nonneg_right c b) (Rat.mul_le_mul_of_nonneg_left d hA)⟩
 rcases (Rat.le_total:(0:Rat)≤v∨v≤0) with hv | hv <;>rcases (Rat.le_total:(0:Rat)≤w∨w≤0) with hw | hw
 ·have:=key v w hv hw h2 h4;grind
 ·have:=key v (-w) hv (by grind) h2 (by grind);grind
 ·have:=key (-v) w (by grind) hw (by grind) h4;grind
 ·have:=key (-v) (-w) (by grind) (by grind) (by grind) (by grind);grind
theorem Bd.mul {k:FloatKind} {x y A B:Nat} (hx:Bd k x A) (hy:Bd k y B) (h:A * B≤2 * k.format.binade):Bd k (fmul k x y) (A * B):=by
 obtain ⟨v,h1,h2,h3⟩:=hx
 obtain ⟨w,h4,h5,h6⟩:=hy
 have e:=Rat.natCast_mul A B
 have hA:(0:Rat)≤(A:Rat):=by exact_mod_cast Nat.zero_le A
 have hB:(0:Rat)≤(B:Rat):=by exact_mod_cast Nat.zero_le B
 obtain ⟨g2,g1⟩:=mul_between hA hB h2 h3 h5 h6
 rw[← e] at g1 g2
 obtain ⟨R,q1,q2⟩:=mul_val h1 h4 (rep_nat k h) (nat_top k h) g1 g2
 exact ⟨R,q1,q2.bd h g1 g2⟩
theorem Bd.div {k:FloatKind} {x y A:Nat} {w:Rat} (hx:Bd k x A) (hy:Val k y w) (hw:1≤w) (h:A≤2 * k.format.binade):Bd k (fdiv k x y) A:=by
 obtain ⟨v,h1,h2,h3⟩:=hx
 have hA:(0:Rat)≤(A:Rat):=by exact_mod_cast Nat.zero_le A
 have hw0:w≠0:=by grind
 have hpos:0<w:=by grind
 have hq:v / w * w=v:=Rat.div_mul_cancel hw0
 have hAw:(A:Rat) * 1≤(A:Rat) * w:=Rat.mul_le_mul_of_nonneg_left hw hA
 have g1:v / w≤(A:Rat):=by
  refine Rat.not_lt.1 fun h => ?_
  have:=(Rat.mul_lt_mul_right hpos).2 h
  grind
 have g2 : -(A:Rat)≤v / w:=by
  refine Rat.not_lt.1 fun h => ?_
  have:=(Rat.mul_lt_mul_right hpos).2 h
  grind
 obtain ⟨R,q1,q2⟩:=div_val h1 hy hw0 (rep_nat k h) (nat_top k h) g1 g2
 exact ⟨R,q1,q2.bd h g1 g2⟩
theorem Bd.int {k:FloatKind} {n:Int} {B:Nat} (h:n.natAbs≤B) (hB:B≤2 * k.format.binade):Bd k (k.nearest n) B:=by
 obtain ⟨h1,h2⟩:=int_abs (n:=n)
 have:((n.natAbs:Nat):Rat)≤(B:Rat):=by exact_mod_cast h
 exact ⟨_,int_val (by omega),by grind,by grind⟩
theorem Bd.even {x B:Nat} (h:Bd .f64 x B) (hB:B≤2 * FloatKind.f64.format.binade):Bd .f64 (integralF .even x) B:=by
 obtain ⟨v,⟨s,m,i,e1,rfl,-⟩,h2,h3⟩:=h
 have hv:=mv_nonneg m i
 have hmv:mv m i≤(B:Rat):=by cases s <;>simp only[sg_true,sg_false] at h2 h3 <;>grind
 have hn:m <<< i.toNat≤B * 2 ^ (-i).toNat:=by
  rw[Nat.shiftLeft_eq]
  have h4:mv (m * 2 ^ i.toNat) (-((-i).toNat:Int))≤mv (B * 2 ^ (-i).toNat) (-((-i).toNat:Int)):=by
   rw[mv_shift,mv_shift]
   rw[show -((-i).toNat:Int)+(i.toNat:Int)=i by omega,show -((-i).toNat:Int)+((-i).toNat:Int)=0 by omega]
   have e0:mv B 0=(B:Rat):=by unfold mv;rw[p2_zero,Rat.mul_one]
   rw[e0];exact hmv
  exact mv_le.1 h4
 have hc:=(cut_bounds s (m <<< i.toNat) (-i).toNat B).1 hn
 have e2:integralF .even x=FloatKind.f64.encode (.number s (Ieee.Toward.cut .even s (m <<< i.toNat) (-i).toNat) 0):=by
  unfold integralF;rw[e1];rfl
 rw[e2]
 generalize Ieee.Toward.cut .even s (m <<< i.toNat) (-i).toNat=c at *
 have hcb:c≤2 * FloatKind.f64.format.binade:=by omega
 have e3:mv c 0=(c:Rat):=by unfold mv;rw[p2_zero,Rat.mul_one]
 have e4:(c:Rat)≤(B:Rat):=by exact_mod_cast hc
 have e5:(0:Rat)≤(c:Rat):=by exact_mod_cast Nat.zero_le c
 obtain ⟨m',e',q1,q2⟩:=exact_write .f64 s (m:=c) (e:=0) (by rw[e3];exact rep_nat .f64 hcb) (by rw[e3];exact nat_top .f64 hcb)
 refine ⟨_,read_val q1,?_,?_⟩ <;>rw[q2,e3] <;>cases s <;>simp only[sg_true,sg_false] <;>grind
end Go.Desk
end
section
namespace Go.Desk
open Go
theorem fin_val {x:Nat} (h:fin32 x=true):Val .f32 x (fval .f32 x):=by
 obtain ⟨s,m,e,hd⟩:=fin_read h
 have:=read_val hd
 unfold fval;rw[hd];exact this
theorem Val.fval {k:FloatKind} {x:Nat} {v:Rat} (h:Val k x v):Go.Desk.fval k x=v:=by
 obtain ⟨s,m,e,h1,h2,-⟩:=h
 unfold Go.Desk.fval;rw[h1];exact h2.symm
theorem Val.fin {x:Nat} {v:Rat} (h:Val .f32 x v):fin32 x=true:=by
 obtain ⟨s,m,e,h1,-⟩:=h
 have:=(read_fin h1).1
 unfold fin32
 exact decide_eq_true this
theorem size_val {x:Nat} {v:Rat} (hx:W32 x) (h:Val .f32 x v):(0≤v→Val .f32 (size32 x) v)∧(v≤0→Val .f32 (size32 x) (-v)):=by
 have hn:=h.num
 obtain ⟨s,m,e,h1,rfl,h2,h3⟩:=h
 have hs:size32 x=x % 2147483648:=by unfold size32;rw[hn];rfl
 have h4:FloatKind.f32.decode (size32 x) = .number false m e:=by rw[hs];exact decode_size.1 s m e h1
 have h5:=read_val h4
 have hnn:=mv_nonneg m e
 rw[sg_false] at h5
 constructor
 ·intro h
  cases s <;>simp only[sg_true,sg_false] at h ⊢
  ·exact h5
  ·have:mv m e=0:=by grind
   rw[this] at h5 ⊢;simpa using h5
 ·intro h
  cases s <;>simp only[sg_true,sg_false] at h ⊢
  ·have:mv m e=0:=by grind
   rw[this] at h5 ⊢;simpa using h5
  ·rw[Rat.neg_neg];exact h5
def plainOk (x:Nat):Bool:=fin32 x&&(x % 2147483648==0||(decide (1031798784≤x % 2147483648)&&decide (x % 2147483648≤1091829760)))
theorem plain_tab:∀ m:Nat,m<129→(plainOk (fdiv .f32 (FloatKind.f32.nearest ((m:Int) - 64)) 1088421888)&&plainOk (fdiv .f32 (FloatKind.f32.nearest ((m:Int) - 64)) 1098907648))=true:=by decide +kernel
theorem Plain.ok {x:Nat} (h:Plain x):plainOk x=true:=by
 obtain ⟨m,hm,h⟩:=h
 obtain ⟨k,hk⟩:=Int.eq_ofNat_of_zero_le (show 0≤m+64 by omega)
 have hm':m=(k:Int) - 64:=by omega
 have:=plain_tab k (by omega)
 rw[← hm',Bool.and_eq_true] at this
 rcases h with rfl | rfl
 ·exact this.1
 ·exact this.2
theorem Plain.fin {x:Nat} (h:Plain x):fin32 x=true:=by
 have:=h.ok
 unfold plainOk at this
 rw[Bool.and_eq_true] at this
 exact this.1
theorem val_const (x:Nat) (s:Bool) (m:Nat) (e:Int) (h:FloatKind.f32.decode x = .number s m e):Val .f32 x (sg s (mv m e)):=read_val h
theorem Plain.val {x:Nat} (h:Plain x):∃ v,Val .f32 (size32 x) v∧(v=0∨1 / 16≤v)∧0≤v∧v≤10∧(fval .f32 x=v∨fval .f32 x = -v):=by
 have hf:=h.fin
 have hok:=h.ok
 have hw:=h.w32
 have hv:=fin_val hf
 obtain ⟨s1,s2⟩:=size_val hw hv
 have hn:=fin_num hf
 have hs:size32 x=x % 2147483648:=by unfold size32;rw[hn];rfl
 have hex:∃ v,Val .f32 (size32 x) v∧0≤v∧(fval .f32 x=v∨fval .f32 x = -v):=by
  rcases (Rat.le_total:(0:Rat)≤fval .f32 x∨fval .f32 x≤0) with h1 | h1
  ·exact ⟨_,s1 h1,h1,.inl rfl⟩
  ·exact ⟨_,s2 h1,by grind,.inr (by grind)⟩
 obtain ⟨v,q1,q2,q3⟩:=hex
 refine ⟨v,q1,?_,q2,?_,q3⟩
 ·unfold plainOk at hok
  simp only[Bool.and_eq_true,Bool.or_eq_true,beq_iff_eq,decide_eq_true_eq] at hok
  rcases hok.2 with h0 | ⟨h1,-⟩
  ·rw[← hs] at h0
   rw[h0] at q1
   exact .inl (q1.inj (val_zero .f32))
  ·refine .inr ?_
   have hc:Val .f32 1031798784 (1 / 16):=by
    have:=val_const 1031798784 false (2 ^ 23) (-27) (by decide)
    rw[sg_false,mv_pow] at this
    have e:p2 (-27+((23:Nat):Int)) * 16=1:=by
     have h4:=p2_add (-27+((23:Nat):Int)) 4
     have h16:p2 4=16:=by have:=p2_nat 4;rw[show ((4:Nat):Int)=4 from rfl] at this;rw[this];rfl
     rw[h16] at h4;rw[← h4,show (-27:Int)+((23:Nat):Int)+4=0 by decide,p2_zero]
    have e2:p2 (-27+((23:Nat):Int))=1 / 16:=by grind
    rw[e2] at this;exact this
   have:=(fge_val q1 hc).1 (by
    rw[fge_key];unfold num2
    rw[q1.num,hc.num,key32 (by omega),key32 (by omega),if_pos (by omega),if_pos (by omega)]
    simp;omega)
   exact this
 ·unfold plainOk at hok
  simp only[Bool.and_eq_true,Bool.or_eq_true,beq_iff_eq,decide_eq_true_eq] at hok
  have hle:x % 2147483648≤1091829760:=by rcases hok.2 with h0 | ⟨-,h1⟩ <;>omega
  have hc:Val .f32 1092616192 10:=by
   have:=int_val (k:=.f32) (n:=10) (by decide)
   rwa [show FloatKind.f32.nearest 10=1092616192 by decide] at this
  refine (fle_val q1 hc).1 ?_
  rw[fle_key];unfold num2
  rw[q1.num,hc.num,key32 (by omega),key32 (by omega),if_pos (by omega),if_pos (by omega)]
  simp;omega
end Go.Desk
end
section
namespace Go.Desk
open Go
def levelM (at_ re:Nat) (l x:Nat):Nat:=flushM (fadd .f32 l (fmul .f32 (if fgt .f32 (size32 x) l then at_ else re) (fsub .f32 (size32 x) l)))
def gainM (l t r:Nat):Nat:=if fgt .f32 l t then fdiv .f32 (fadd .f32 t (fdiv .f32 (fsub .f32 l t) r)) l else 1065353216
def duckStep (a r t q:Nat) (l:Nat) (x:Nat × Nat):Nat × Nat:=(fmul .f32 x.1 (gainM (levelM a r l x.2) t q),levelM a r l x.2)
theorem binade32:2 * FloatKind.f32.format.binade=16777216:=by decide
end Go.Desk
end
section
namespace Go.Desk
open Go
def headM (w:List Nat):Nat:=w.getD 0 0
def AllW (w:List Nat):Prop:=∀ y∈w,W32 y
theorem int_mul {a b:Int} (ha:a.natAbs≤16777216) (hb:b.natAbs≤16777216) (hab:(a * b).natAbs≤16777216) (h0:a * b≠0):fmul .f32 (FloatKind.f32.nearest a) (FloatKind.f32.nearest b)=FloatKind.f32.nearest (a * b):=by
 have b32:2 * FloatKind.f32.format.binade=16777216:=binade32
 have va:=int_val (k:=.f32) (n:=a) (by rw[b32];exact ha)
 have vb:=int_val (k:=.f32) (n:=b) (by rw[b32];exact hb)
 have hab':(a * b).natAbs≤2 * FloatKind.f32.format.binade:=by rw[b32];exact hab
 have hv:(a:Rat) * (b:Rat)=((a * b:Int):Rat):=(Rat.intCast_mul _ _).symm
 obtain ⟨h1,h2⟩:=int_abs (n:=a * b)
 obtain ⟨R,h3,h4⟩:=mul_val va vb (rep_nat .f32 hab') (nat_top .f32 hab') (by rw[hv];exact h1) (by rw[hv];exact h2)
 rw[hv] at h4
 have h5:=h3.near_eq h4 (int_rep hab')
 exact word_of_val (fmul_lt _ _ _) (nearest_lt _ _) h5 (int_val hab') (by exact_mod_cast h0)
theorem nearest_one:FloatKind.f32.nearest 1=1065353216:=by decide
theorem one_mul {a:Int} (h : -1000000≤a∧a≤1000000):fmul .f32 1065353216 (FloatKind.f32.nearest a)=FloatKind.f32.nearest a:=by
 by_cases h0:a=0
 ·subst h0;decide
 ·have:=int_mul (a:=1) (b:=a) (by decide) (by omega) (by omega) (by omega)
  rw[nearest_one,Int.one_mul] at this
  exact this
theorem small_bin {a:Int} (h : -1000000≤a∧a≤1000000):a.natAbs≤2 * FloatKind.f32.format.binade:=by
 rw[show 2 * FloatKind.f32.format.binade=16777216 from binade32];omega
theorem add_zero {a:Int} (h : -1000000≤a∧a≤1000000):fadd .f32 (FloatKind.f32.nearest a) 0=FloatKind.f32.nearest a:=by
 have:=int_add (k:=.f32) (a:=a) (b:=0) (small_bin h) (by decide) (by simpa using small_bin h)
 rw[nearest_zero] at this
 simpa using this
end Go.Desk
namespace Go.Desk
open Go
end Go.Desk
end
noncomputable section
namespace Go.Proofs.Ytdobhipbgpiceaa.D
open Go Go.Desk
def bodyOf (f:Func):Code:=match f.body with
 | some c=>c
 | none => .skip
def tyTab:List (Nat × TD):=[
 (2,⟨false,1,8,[.leaf],[.int .i64 0],.int .i64⟩),
 (3,⟨false,1,8,[.leaf],[.int .i64 0],.int .i64⟩),
 (4,⟨false,1,1,[.leaf],[.bool false],.bool⟩),
 (5,⟨false,1,1,[.leaf],[.int .u8 0],.int .u8⟩),
 (22,⟨false,1,24,[.sl .own [.leaf]],[.lst 0 []],.slc 5⟩),
 (24,⟨false,1,24,[.sl .own [.leaf]],[.lst 0 []],.slc 29⟩),
 (29,⟨false,1,4,[.leaf],[.flt .f32 0],.flt .f32⟩),
 (35,⟨false,1,24,[.sl .own [.leaf,.leaf,.sl .own [.leaf]]],[.lst 0 []],.slc 54⟩),
 (54,⟨true,3,40,[.leaf,.leaf,.sl .own [.leaf]],[.int .i64 0,.int .i64 0,.lst 0 []],.st [(0,2),(1,2),(2,24)]⟩),
 (60,⟨false,1,24,[.sl .own [.leaf]],[.lst 0 []],.slc 2⟩),
 (68,⟨true,5,20,[.leaf,.leaf,.leaf,.leaf,.leaf],[.flt .f32 0,.flt .f32 0,.flt .f32 0,.flt .f32 0,.flt .f32 0],.st [(0,29),(1,29),(2,29),(3,29),(4,29)]⟩),
 (83,⟨false,1,24,[.sl .own [.leaf,.leaf,.sl .own [.leaf]]],[.lst 0 []],.slc 91⟩),
 (84,⟨false,1,24,[.sl .own [.sl .own [.leaf,.leaf,.sl .own [.leaf]],.leaf,.leaf,.leaf,.leaf]],[.lst 0 []],.slc 161⟩),
 (86,⟨true,2,48,[.sl .own [.leaf,.leaf,.sl .own [.leaf]],.sl .own [.sl .own [.leaf,.leaf,.sl .own [.leaf]],.leaf,.leaf,.leaf,.leaf]],[.lst 0 [],.lst 0 []],.st [(0,83),(1,84)]⟩),
 (91,⟨true,3,40,[.leaf,.leaf,.sl .own [.leaf]],[.int .i64 0,.int .i64 0,.lst 0 []],.st [(0,2),(1,2),(2,24)]⟩),
 (105,⟨false,1,8,[.leaf],[.nil],.ptr 170⟩),
 (113,⟨false,1,4,[.leaf],[.int .u32 0],.int .u32⟩),
 (146,⟨false,1,8,[.leaf],[.nil],.ptr 86⟩),
 (149,⟨false,1,8,[.leaf],[.nil],.ptr 91⟩),
 (161,⟨true,5,40,[.sl .own [.leaf,.leaf,.sl .own [.leaf]],.leaf,.leaf,.leaf,.leaf],[.lst 0 [],.int .i64 0,.flt .f32 0,.bool false,.bool false],.st [(0,35),(1,2),(2,29),(3,4),(4,4)]⟩),
 (168,⟨false,1,8,[.leaf],[.int .u64 0],.int .u64⟩),
 (170,⟨true,3,40,[.sl .own [.leaf],.leaf,.leaf],[.lst 0 [],.int .i64 0,.int .u64 0],.st [(0,22),(1,3),(2,168)]⟩),
 (185,⟨true,5,40,[.sl .own [.leaf],.leaf,.leaf,.leaf,.leaf],[.lst 0 [],.int .i64 0,.flt .f32 0,.bool false,.bool false],.st [(0,24),(1,2),(2,29),(3,4),(4,4)]⟩),
 (187,⟨false,1,8,[.leaf],[.nil],.ptr 161⟩),
 (189,⟨false,1,24,[.sl .own [.sl .own [.leaf],.leaf,.leaf,.leaf,.leaf]],[.lst 0 []],.slc 185⟩),
 (207,⟨true,3,12,[.leaf,.leaf,.leaf],[.flt .f32 0,.flt .f32 0,.flt .f32 0],.st [(0,29),(1,29),(2,29)]⟩),
 (209,⟨true,5,20,[.leaf,.leaf,.leaf,.leaf,.leaf],[.flt .f32 0,.flt .f32 0,.flt .f32 0,.flt .f32 0,.flt .f32 0],.st [(0,207),(3,29),(4,29)]⟩),
 (211,⟨false,1,8,[.leaf],[.int .u64 0],.int .u64⟩),
 (224,⟨false,1,8,[.leaf],[.nil],.ptr 54⟩)]
def c8:Code:=bodyOf Try.f8
def c23:Code:=bodyOf Try.f23
def c32:Code:=bodyOf Try.f32
def c33:Code:=bodyOf Try.f33
def c39:Code:=bodyOf Try.f39
def c41:Code:=bodyOf Try.f41
def c50:Code:=bodyOf Try.f50
def c51:Code:=bodyOf Try.f51
def c52:Code:=bodyOf Try.f52
def c53:Code:=bodyOf Try.f53
def c54:Code:=bodyOf Try.f54
def c64:Code:=bodyOf Try.f64
def c65:Code:=bodyOf Try.f65
def c66:Code:=bodyOf Try.f66
def c67:Code:=bodyOf Try.f67
def c71:Code:=bodyOf Try.f71
def c73:Code:=bodyOf Try.f73
def c74:Code:=bodyOf Try.f74
def c76:Code:=bodyOf Try.f76
def c78:Code:=bodyOf Try.f78
def c81:Code:=bodyOf Try.f81
def c83:Code:=bodyOf Try.f83
def c84:Code:=bodyOf Try.f84
def c86:Code:=bodyOf Try.f86
def c87:Code:=bodyOf Try.f87
def c89:Code:=bodyOf Try.f89
def c91:Code:=bodyOf Try.f91
def c92:Code:=bodyOf Try.f92
def c93:Code:=bodyOf Try.f93
def c98:Code:=bodyOf Try.f98
def c99:Code:=bodyOf Try.f99
def c100:Code:=bodyOf Try.f100
def c101:Code:=bodyOf Try.f101
def c102:Code:=bodyOf Try.f102
def c103:Code:=bodyOf Try.f103
def c104:Code:=bodyOf Try.f104
def c105:Code:=bodyOf Try.f105
def c106:Code:=bodyOf Try.f106
def c107:Code:=bodyOf Try.f107
def c108:Code:=bodyOf Try.f108
def c119:Code:=bodyOf Try.f119
def c130:Code:=bodyOf Try.f130
def c132:Code:=bodyOf Try.f132
def c133:Code:=bodyOf Try.f133
def c134:Code:=bodyOf Try.f134
def c136:Code:=bodyOf Try.f136
def c137:Code:=bodyOf Try.f137
def c138:Code:=bodyOf Try.f138
def c139:Code:=bodyOf Try.f139
def c140:Code:=bodyOf Try.f140
def c141:Code:=bodyOf Try.f141
def c143:Code:=bodyOf Try.f143
def c144:Code:=bodyOf Try.f144
def c145:Code:=bodyOf Try.f145
def c146:Code:=bodyOf Try.f146
def c147:Code:=bodyOf Try.f147
def c148:Code:=bodyOf Try.f148
def c149:Code:=bodyOf Try.f149
def c165:Code:=bodyOf Try.f165
def c166:Code:=bodyOf Try.f166
def c174:Code:=bodyOf Try.f174
def c177:Code:=bodyOf Try.f177
def c178:Code:=bodyOf Try.f178
def c188:Code:=bodyOf Try.f188
def c194:Code:=bodyOf Try.f194
def c205:Code:=bodyOf Try.f205
def fnTab:List (Nat × FD):=[
 (8,.code c8 [.val,.val] [] [(4,none)] [(0,[0,1]),(1,[0,1]),(2,[]),(3,[0,1]),(4,[1,5,1000000005]),(5,[1,5,6,1000000005]),(6,[1,5,6,7,1000000005]),(7,[1,5,6,7,8,9,1000000005]),(8,[1,5,6,7,8,9,10,11,1000000005]),(9,[]),(10,[1,5,6,7,8,10,1000000005]),(11,[1,5,6,7,8,10,12,1000000005]),(12,[1,5,6,7,8,10,12,13,1000000005]),(13,[1,5,6,7,8,10,12,13,67,68,1000000005]),(14,[1,5,6,7,8,10,12,13,67,68,1000000005]),(15,[1,5,6,7,8,10,12,13,14,67,68,1000000005]),(16,[1,5,6,7,8,10,12,13,15,67,68,1000000005]),(17,[1,5,6,7,8,10,12,13,15,67,68,1000000005]),(18,[1,5,6,7,8,10,12,13,15,67,68,86,87,1000000005]),(19,[1,5,6,7,8,10,12,13,15,67,68,86,87,1000000005]),(20,[1,5,6,7,8,10,12,13,15,16,67,68,86,87,1000000005]),(21,[1,5,6,7,8,10,12,13,15,16,17,67,68,86,87,1000000005]),(22,[1,5,6,7,8,10,12,13,15,16,17,67,68,86,87,1000000005]),(23,[1,5,6,7,8,10,12,13,15,67,68,86,87,1000000005]),(24,[1,5,6,7,8,10,12,13,67,68,1000000005]),(25,[1,5,8,10,12,13,1000000005]),(26,[]),(27,[1,5,1000000005]),(28,[1,5,18,1000000005]),(29,[5,18,19,1000000005]),(30,[5,18,19,20,21,1000000005]),(31,[5,18,19,20,21,23,1000000005,1000000020]),(32,[]),(33,[5,18,19,20,21,1000000005,1000000020]),(34,[]),(35,[5,18,19,20,1000000005,1000000020]),(36,[]),(37,[5,18,19,20,1000000005,1000000020]),(38,[5,19,20,24,1000000005,1000000020]),(39,[5,19,20,24,25,1000000005,1000000020]),(40,[5,19,20,24,25,1000000005,1000000020]),(41,[5,19,20,24,25,1000000005,1000000020]),(42,[5,19,20,24,25,26,1000000005,1000000020]),(43,[]),(44,[]),(1000013,[1,5,8,10,12,13,1000000005]),(1000018,[1,5,6,7,8,10,12,13,67,68,114,115,1000000005]),(1000039,[4])]),
 (23,.code c23 [.val] [] [(2,none)] [(0,[0]),(1,[0]),(2,[]),(3,[0]),(4,[0,8,9,10]),(5,[0,8,9,10]),(6,[0,4,8,9,10]),(7,[]),(8,[0,8,9,10]),(9,[]),(1000004,[2])]),
 (32,.code c32 [.val,.val] [] [(4,none)] [(0,[0,1]),(1,[0,1])]),
 (33,.code c33 [.val,.val,.val] [] [(6,none)] [(0,[0,1,2]),(1,[0,1,2]),(2,[]),(3,[0,1,2]),(4,[0,1,2]),(5,[1,2])]),
 (39,.code c39 [.val,.val] [] [(4,none)] [(0,[0,1]),(1,[0,1]),(2,[]),(3,[0,1]),(4,[0,1,5]),(5,[0,1,5]),(6,[0,1,5]),(7,[]),(8,[]),(1000004,[4])]),
 (41,.code c41 [.val,.val] [] [(4,none)] [(0,[0,1]),(1,[0,1])]),
 (50,.code c50 [.val] [] [(2,some (true,2))] [(0,[0]),(1,[0,2]),(2,[2,3])]),
 (51,.code c51 [.val,.val,.val] [] [(6,none),(7,none)] [(0,[0,1,2]),(1,[1,2,3]),(2,[]),(3,[1,2,3])]),
 (52,.code c52 [.val] [] [(2,none),(3,none)] [(0,[0]),(1,[1]),(2,[]),(3,[1]),(4,[1,4]),(5,[1,4,11,12,13]),(6,[1,4,11,12,13]),(7,[1,4,6,11,12,13]),(8,[1,4,11,12,13]),(9,[4]),(1000005,[4])]),
 (53,.code c53 [.val,.val,.val] [] [(6,some (true,2)),(7,none)] [(0,[0,1,2]),(1,[1,2,3,6]),(2,[6]),(3,[1,2,3,6]),(4,[1,2,3,6,8]),(5,[2,6,8,9]),(6,[2,6,8,9]),(7,[2,6,8,9]),(8,[2,6,8,9]),(9,[6,8]),(1000005,[6,8])]),
 (54,.code c54 [.val,.val,.val] [] [(6,some (true,2)),(7,none)] [(0,[0,1,2]),(1,[1,2,3,6]),(2,[6]),(3,[1,2,3,6]),(4,[1,2,3,6,8]),(5,[1,2,3,6,8,9]),(6,[1,2,3,6,8,9]),(7,[1,2,3,6,8,9]),(8,[1,2,3,6,8,9,10]),(9,[1,2,3,6,8,9,10]),(10,[6,8]),(11,[6]),(12,[6,8]),(1000005,[6,8])]),
 (64,.code c64 [.val] [] [(2,none)] [(0,[0]),(1,[0])]),
 (65,.code c65 [.iop] [0] [(2,none)] [(0,[0]),(1,[0]),(2,[0,3]),(3,[0,3]),(4,[0,3])]),
 (66,.code c66 [.val] [] [(2,none)] [(0,[0]),(1,[0])]),
 (67,.code c67 [.val,.val,.val] [] [(6,none)] [(0,[0,1,2]),(1,[0,1,2])]),
 (70,.ext (pF32bits)),
 (71,.code c71 [.iop] [0] [(2,none)] [(0,[0]),(1,[0]),(2,[0,3]),(3,[0,3,4]),(4,[0,3]),(5,[0,3,4]),(6,[0,3,4]),(7,[0,3,4]),(8,[0,3]),(1000005,[0,3])]),
 (73,.code c73 [.iop,.val] [0] [(4,none)] [(0,[0,1]),(1,[0,1]),(2,[0,1,5]),(3,[0,1,5,6]),(4,[0,1,5,6]),(5,[0,1,5,6]),(6,[0,1,5,6]),(7,[0,1,5,6]),(8,[0,5]),(1000003,[0,5])]),
 (74,.code c74 [.iop,.val] [0] [(4,none)] [(0,[0,1]),(1,[0,1]),(2,[0]),(3,[0,1]),(4,[0,1,5]),(5,[0,1,5]),(6,[0,1,5])]),
 (76,.code c76 [.val] [] [(2,none)] [(0,[0]),(1,[1]),(2,[1,4]),(3,[1,4]),(4,[1]),(5,[1,4]),(6,[1]),(7,[1,4]),(8,[1]),(9,[1,4]),(10,[1]),(11,[1,4]),(12,[1]),(13,[1,4]),(14,[1]),(15,[])]),
 (78,.code c78 [.val] [] [(2,none)] [(0,[0]),(1,[0]),(2,[0,3]),(3,[0,3,6,7,8]),(4,[0,3,6,7,8]),(5,[0,3,5,6,7,8]),(6,[0,3,5,6,7,8]),(7,[0,3,6,7,8]),(8,[3]),(1000003,[3])]),
 (81,.code c81 [.val] [] [(2,none)] [(0,[0]),(1,[0])]),
 (83,.code c83 [.val,.val] [] [(4,none)] [(0,[0,1]),(1,[0,1])]),
 (84,.code c84 [.val] [] [(2,none)] [(0,[0]),(1,[0])]),
 (86,.code c86 [.iop] [0] [(2,none)] [(0,[0]),(1,[0]),(2,[0]),(3,[0]),(4,[0,10]),(5,[0]),(6,[0,10]),(7,[0]),(8,[0,3]),(9,[0,10]),(10,[0]),(11,[0])]),
 (87,.code c87 [.val] [] [(2,none)] [(0,[0]),(1,[0])]),
 (89,.code c89 [.val] [] [(2,none)] [(0,[0]),(1,[0])]),
 (91,.code c91 [.val] [] [(2,none)] [(0,[0]),(1,[0])]),
 (92,.code c92 [.val,.val] [] [(4,none)] [(0,[0,1]),(1,[0,1])]),
 (93,.code c93 [.iop] [0] [(2,some (true,5))] [(0,[0]),(1,[0,2]),(2,[0,2,3]),(3,[0,2,3]),(4,[0,2,3]),(5,[0,2,3]),(6,[0,2,3]),(7,[0,2,3]),(8,[0,2,3]),(9,[0,2,3]),(10,[0,2,3])]),
 (98,.code c98 [.iop] [0] [(2,some (true,2))] [(0,[0]),(1,[0,2]),(2,[0,2,3]),(3,[0,2,3,4]),(4,[0,2,3,4]),(5,[0,2,3,4]),(6,[0,2,3,4,5]),(7,[0,2,3,4,5]),(8,[0,2,3,4,5]),(9,[0,2,3,4,5]),(10,[0,2,3,4,5]),(11,[0,2,3]),(12,[0,2,3,6]),(13,[0,2,3,6]),(14,[0,2,3,6]),(15,[0,2,3,6,7]),(16,[0,2,3,6,7]),(17,[0,2,3,6,7]),(18,[0,2,3]),(1000003,[0,2,3]),(1000012,[0,2,3])]),
 (99,.code c99 [.val,.val,.val] [] [(6,none)] [(0,[0,1,2]),(1,[1,2,3])]),
 (100,.code c100 [.val,.val,.val,.val] [] [(8,none)] [(0,[0,1,2,3]),(1,[1,2,3,4]),(2,[1,2,3,4,9]),(3,[1,2,3,4,9,18,19,20]),(4,[1,2,3,4,9,18,19,20]),(5,[1,2,3,4,9,11,18,19,20]),(6,[1,2,3,4,9,11,18,19,20]),(7,[1,2,3,4,9,11,18,19,20,29,30,31]),(8,[1,2,3,4,9,11,18,19,20,29,30,31]),(9,[1,2,3,4,9,11,12,13,18,19,20,29,30,31]),(10,[1,2,3,4,9,11,13,14,18,19,20,29,30,31]),(11,[1,2,3,4,9,11,13,14,18,19,20,29,30,31]),(12,[1,2,3,4,9,11,18,19,20,29,30,31]),(13,[1,2,3,4,9,18,19,20]),(14,[9]),(1000003,[9]),(1000007,[1,2,3,4,9,18,19,20,53,54])]),
 (101,.code c101 [.val] [] [(2,none)] [(0,[0]),(1,[1]),(2,[]),(3,[1]),(4,[1,20,21,22]),(5,[1,20,21,22]),(6,[1,4,20,21,22]),(7,[]),(8,[1,20,21,22]),(9,[1]),(10,[1,44,45,46]),(11,[1,44,45,46]),(12,[1,6,44,45,46]),(13,[]),(14,[1,44,45,46]),(15,[]),(1000004,[1,2,69]),(1000010,[2])]),
 (102,.code c102 [.val] [] [(2,none)] [(0,[0]),(1,[1])]),
 (103,.code c103 [.val] [] [(2,some (true,2))] [(0,[0]),(1,[1,2]),(2,[1,2,3]),(3,[1,2,3,9,10,11]),(4,[1,2,3,9,10,11]),(5,[1,2,3,5,9,10,11]),(6,[1,2,3,5,9,10,11]),(7,[1,2,3,9,10,11]),(8,[1,2,3]),(9,[1,2,3,27,28,29]),(10,[1,2,3,27,28,29]),(11,[1,2,3,7,27,28,29]),(12,[1,2,3,7,27,28,29]),(13,[1,2,3,27,28,29]),(14,[2,3]),(1000003,[1,2,3,43]),(1000009,[2,3])]),
 (104,.code c104 [.io] [1] [(2,some (true,2)),(3,none)] [(0,[0]),(1,[1,2]),(2,[1,2]),(3,[1,2])]),
 (105,.code c105 [.val] [] [(2,none)] [(0,[0]),(1,[0]),(2,[0,3]),(3,[]),(4,[0,3]),(5,[0,3,27,28]),(6,[0,3,27,28]),(7,[0,3,4,27,28]),(8,[0,3,4,5,27,28]),(9,[]),(10,[0,3,27,28]),(11,[0,3]),(12,[0,3,60,61]),(13,[0,3,60,61]),(14,[0,3,6,60,61]),(15,[]),(16,[0,3,60,61]),(17,[]),(1000005,[0,2,3,100]),(1000012,[2])]),
 (106,.code c106 [.val,.val,.val] [] [(6,none)] [(0,[0,1,2]),(1,[0,1,2])]),
 (107,.code c107 [.val] [] [(2,some (true,2))] [(0,[0]),(1,[0,2]),(2,[0,2,3]),(3,[0,2,3,14,15]),(4,[0,2,3,14,15]),(5,[0,2,3,4,14,15]),(6,[0,2,3,14,15]),(7,[0,2,3]),(8,[0,2,3,35,36]),(9,[0,2,3,35,36]),(10,[0,2,3,5,35,36]),(11,[0,2,3,6,35,36]),(12,[0,2,3,6,35,36]),(13,[0,2,3,35,36]),(14,[2,3]),(1000003,[0,2,3,56]),(1000008,[2,3])]),
 (108,.code c108 [.val] [] [(2,some (true,3))] [(0,[0]),(1,[0,2])]),
 (119,.code c119 [.val] [] [(2,none)] [(0,[0]),(1,[0])]),
 (130,.code c130 [.iop,.val] [0] [(4,none)] [(0,[0,1]),(1,[0,1])]),
 (132,.code c132 [.iop] [0] [(2,some (true,3))] [(0,[0]),(1,[0,2]),(2,[0,2,3]),(3,[0,2,3,11]),(4,[0,2,3,11]),(5,[0,2,3]),(6,[0,2,3,11]),(7,[0,2,3]),(8,[0,2,3,4]),(9,[0,2,3,11]),(10,[0,2,3]),(11,[0,2,3]),(12,[0,2,3]),(13,[0,2,3,11]),(14,[0,2,3]),(15,[0,2,3,5]),(16,[0,2,3,11]),(17,[0,2,3]),(18,[0,2,3]),(19,[0,2,3]),(20,[0,2,3])]),
 (133,.code c133 [.val,.val] [] [(4,none),(5,none)] [(0,[0,1]),(1,[0,1]),(2,[0,1,6]),(3,[0,1,6]),(4,[]),(5,[0,1,6]),(6,[]),(7,[0,1,6]),(8,[1]),(9,[0,1,6]),(10,[]),(11,[0,1,6]),(12,[]),(13,[0,1,6]),(14,[1]),(15,[])]),
 (134,.code c134 [.iop] [0] [(2,none)] [(0,[0]),(1,[0]),(2,[0,3]),(3,[0]),(4,[0,3]),(5,[0,3]),(6,[0,3]),(7,[0,3]),(8,[0])]),
 (136,.code c136 [.val,.val,.val,.val] [] [(8,none)] [(0,[0,1,2,3]),(1,[1,2,3,4])]),
 (137,.code c137 [.val] [] [(2,none)] [(0,[0]),(1,[0])]),
 (138,.code c138 [.val] [] [(2,none)] [(0,[0]),(1,[0])]),
 (139,.code c139 [.iop,.io] [0,1] [(4,none)] [(0,[0,1]),(1,[0,1])]),
 (140,.code c140 [.val] [] [(2,none)] [(0,[0]),(1,[0]),(2,[]),(3,[0])]),
 (141,.code c141 [.iop] [0] [(2,none)] [(0,[0]),(1,[0]),(2,[0]),(3,[0]),(4,[0]),(5,[0])]),
 (143,.code c143 [.val] [] [(2,none)] [(0,[0]),(1,[0])]),
 (144,.code c144 [.val] [] [(2,none)] [(0,[0]),(1,[0])]),
 (145,.code c145 [.val,.io] [1] [(4,some (true,5))] [(0,[0,1]),(1,[0,1,4])]),
 (146,.code c146 [.val] [] [(2,none)] [(0,[0]),(1,[0]),(2,[0,3]),(3,[0,3]),(4,[0,3]),(5,[]),(6,[0]),(1000002,[0,2])]),
 (147,.code c147 [.val] [] [(2,none)] [(0,[0]),(1,[0]),(2,[0,5,6]),(3,[0,5,6]),(4,[0,3,5,6]),(5,[]),(6,[0,5,6]),(7,[0]),(1000002,[0,2])]),
 (148,.code c148 [.val] [] [(2,none)] [(0,[0]),(1,[0])]),
 (149,.code c149 [.val] [] [(2,none)] [(0,[0]),(1,[0]),(2,[0,3]),(3,[0,3,8,9]),(4,[0,3,8,9]),(5,[0,3,4,8,9]),(6,[0,3,5,8,9]),(7,[0,3,5,8,9]),(8,[0,3,8,9]),(9,[3]),(1000003,[3])]),
 (165,.code c165 [.iop] [0] [(2,none)] [(0,[0]),(1,[0]),(2,[0]),(3,[0])]),
 (166,.code c166 [.iop] [0] [(2,some (true,5))] [(0,[0]),(1,[0,2]),(2,[0,2,3]),(3,[0,2,3]),(4,[0,2,3]),(5,[0,2,3]),(6,[0,2,3])]),
 (174,.code c174 [.val] [] [(2,none)] [(0,[0]),(1,[0])]),
 (175,.ext (pF32frombits)),
 (177,.code c177 [.val] [] [(2,none)] [(0,[0]),(1,[0]),(2,[0,3]),(3,[0,3,4]),(4,[0]),(5,[0,3]),(6,[0,3,4]),(7,[0,3]),(8,[0,3,4]),(9,[]),(10,[0]),(11,[0,5])]),
 (178,.code c178 [.val] [] [(2,none)] [(0,[0]),(1,[0])]),
 (188,.code c188 [.iop] [0] [(2,some (true,3))] [(0,[0]),(1,[0,2]),(2,[0,2,3]),(3,[0,2,3]),(4,[0,2,3]),(5,[0,2,3])]),
 (194,.code c194 [.val] [] [(2,none)] [(0,[0]),(1,[0])]),
 (205,.code c205 [.val] [] [(2,none)] [(0,[0]),(1,[0])])]
def E:Env:=⟨fun t=>lookT tyTab t,lookF fnTab⟩
def fdAt (n:Nat):FD:=match lookF fnTab n with
 | some d=>d
 | none => .ext fun _=>none
def keepAt (n:Nat):List (Nat × List Nat):=match lookF fnTab n with
 | some d=>d.keep
 | none=>[]
theorem tysOk:TysOk Try.prog E:=tysOk_of (l:=tyTab) (fun _=>rfl) (by kernel_rfl)
abbrev FT (f:Nat):Prop:=FnTab Try.prog E f (fdAt f)
theorem ftS {f : Nat} {fn : Func} (c : Code) (hf : Try.prog.funcs[f]? = some fn) (hn : (fn.name == "runtime.NumGoroutine") = false := by kernel_rfl) (hb : fn.body = some c := by kernel_rfl) (h : tabOk E fn c (fdAt f).ms (fdAt f).os (fdAt f).rs = true := by kernel_rfl) (hd : fdAt f = .code c (fdAt f).ms (fdAt f).os (fdAt f).rs (fdAt f).keep := by kernel_rfl) : FT f := by unfold FT; rw [hd]; exact fnTab_code hf hn hb h
theorem ft8:FT 8:=ftS c8 Try.func8
theorem ft23:FT 23:=ftS c23 Try.func23
theorem ft32:FT 32:=ftS c32 Try.func32
theorem ft33:FT 33:=ftS c33 Try.func33
theorem ft39:FT 39:=ftS c39 Try.func39
theorem ft41:FT 41:=ftS c41 Try.func41
theorem ft50:FT 50:=ftS c50 Try.func50
theorem ft51:FT 51:=ftS c51 Try.func51
theorem ft52:FT 52:=ftS c52 Try.func52
theorem ft53:FT 53:=ftS c53 Try.func53
theorem ft54:FT 54:=ftS c54 Try.func54
theorem ft64:FT 64:=ftS c64 Try.func64
theorem ft65:FT 65:=ftS c65 Try.func65
theorem ft66:FT 66:=ftS c66 Try.func66
theorem ft67:FT 67:=ftS c67 Try.func67
theorem ft70:FnTab Try.prog E 70 (.ext (pF32bits)):=ext_pF32bits Try.func70 (by kernel_rfl) (by kernel_rfl) (by kernel_rfl) (by kernel_rfl)
theorem ft71:FT 71:=ftS c71 Try.func71
theorem ft73:FT 73:=ftS c73 Try.func73
theorem ft74:FT 74:=ftS c74 Try.func74
theorem ft76:FT 76:=ftS c76 Try.func76
theorem ft78:FT 78:=ftS c78 Try.func78
theorem ft81:FT 81:=ftS c81 Try.func81
theorem ft83:FT 83:=ftS c83 Try.func83
theorem ft84:FT 84:=ftS c84 Try.func84
theorem ft86:FT 86:=ftS c86 Try.func86
theorem ft87:FT 87:=ftS c87 Try.func87
theorem ft89:FT 89:=ftS c89 Try.func89
theorem ft91:FT 91:=ftS c91 Try.func91
theorem ft92:FT 92:=ftS c92 Try.func92
theorem ft93:FT 93:=ftS c93 Try.func93
theorem ft98:FT 98:=ftS c98 Try.func98
theorem ft99:FT 99:=ftS c99 Try.func99
theorem ft100:FT 100:=ftS c100 Try.func100
theorem ft101:FT 101:=ftS c101 Try.func101
theorem ft102:FT 102:=ftS c102 Try.func102
theorem ft103:FT 103:=ftS c103 Try.func103
theorem ft104:FT 104:=ftS c104 Try.func104
theorem ft105:FT 105:=ftS c105 Try.func105
theorem ft106:FT 106:=ftS c106 Try.func106
theorem ft107:FT 107:=ftS c107 Try.func107
theorem ft108:FT 108:=ftS c108 Try.func108
theorem ft119:FT 119:=ftS c119 Try.func119
theorem ft130:FT 130:=ftS c130 Try.func130
theorem ft132:FT 132:=ftS c132 Try.func132
theorem ft133:FT 133:=ftS c133 Try.func133
theorem ft134:FT 134:=ftS c134 Try.func134
theorem ft136:FT 136:=ftS c136 Try.func136
theorem ft137:FT 137:=ftS c137 Try.func137
theorem ft138:FT 138:=ftS c138 Try.func138
theorem ft139:FT 139:=ftS c139 Try.func139
theorem ft140:FT 140:=ftS c140 Try.func140
theorem ft141:FT 141:=ftS c141 Try.func141
theorem ft143:FT 143:=ftS c143 Try.func143
theorem ft144:FT 144:=ftS c144 Try.func144
theorem ft145:FT 145:=ftS c145 Try.func145
theorem ft146:FT 146:=ftS c146 Try.func146
theorem ft147:FT 147:=ftS c147 Try.func147
theorem ft148:FT 148:=ftS c148 Try.func148
theorem ft149:FT 149:=ftS c149 Try.func149
theorem ft165:FT 165:=ftS c165 Try.func165
theorem ft166:FT 166:=ftS c166 Try.func166
theorem ft174:FT 174:=ftS c174 Try.func174
theorem ft175:FnTab Try.prog E 175 (.ext (pF32frombits)):=ext_pF32frombits Try.func175 (by kernel_rfl) (by kernel_rfl) (by kernel_rfl) (by kernel_rfl)
theorem ft177:FT 177:=ftS c177 Try.func177
theorem ft178:FT 178:=ftS c178 Try.func178
theorem ft188:FT 188:=ftS c188 Try.func188
theorem ft194:FT 194:=ftS c194 Try.func194
theorem ft205:FT 205:=ftS c205 Try.func205
theorem allFns:AllFns Try.prog E fnTab:=.cons ft8 (.cons ft23 (.cons ft32 (.cons ft33 (.cons ft39 (.cons ft41 (.cons ft50 (.cons ft51 (.cons ft52 (.cons ft53 (.cons ft54 (.cons ft64 (.cons ft65 (.cons ft66 (.cons ft67 (.cons ft70 (.cons ft71 (.cons ft73 (.cons ft74 (.cons ft76 (.cons ft78 (.cons ft81 (.cons ft83 (.cons ft84 (.cons ft86 (.cons ft87 (.cons ft89 (.cons ft91 (.cons ft92 (.cons ft93 (.cons ft98 (.cons ft99 (.cons ft100 (.cons ft101 (.cons ft102 (.cons ft103 (.cons ft104 (.cons ft105 (.cons ft106 (.cons ft107 (.cons ft108 (.cons ft119 (.cons ft130 (.cons ft132 (.cons ft133 (.cons ft134 (.cons ft136 (.cons ft137 (.cons ft138 (.cons ft139 (.cons ft140 (.cons ft141 (.cons ft143 (.cons ft144 (.cons ft145 (.cons ft146 (.cons ft147 (.cons ft148 (.cons ft149 (.cons ft165 (.cons ft166 (.cons ft174 (.cons ft175 (.cons ft177 (.cons ft178 (.cons ft188 (.cons ft194 (.cons ft205 (.nil))))))))))))))))))))))))))))))))))))))))))))))))))))))))))))))))))))
theorem fnOk:∀ f fd,E.fn f=some fd→FnTab Try.prog E f fd:=fnTab_of (l:=fnTab) (fun _=>rfl) allFns
abbrev FnS {V X:Type} (no:Nat) (P:List Arg) (S:Sig V) (A:RAlt X) (F:Nat→V→Option X):Prop:=∀ n v x,F n v=some x→evalFn E n no (flAs P (S.pk v))=some (A.enc x)
theorem fnS {V X:Type} {no:Nat} {P:List Arg} {S:Sig V} {A:RAlt X} {F:Nat→V→Option X} (c:Code) (O:Nat→Orc) (bs:List Code:=[]) (ha:∀ n,AllLp (O n) E (evalFn E n) n (keepAt no) bs:=by intro _;exact .nil) (hf:E.fn no=some (.code c (fdAt no).ms (fdAt no).os (fdAt no).rs (keepAt no)):=by kernel_rfl) (hO:∀ n,(O n).CfOk (evalFn E n):=by intro n;exact orcOf_cf _ _ n) (hb:topLoops c=bs:=by kernel_rfl) (h0:∀ v,F 0 v=none:=by intro _;rfl) (hs:∀ n v,F (n+1) v=fnK E (O n) no (flAs P (S.pk v)) A.dec:=by intro _ _;kernel_rfl):FnS no P S A F:=fn_pure O hf hO (fun n=>lpOk_of hb (ha n)) h0 hs
abbrev LpS (no:Nat) (c:Code) (i n:Nat) (O:Orc):Prop:=LpOk O E (evalFn E n) n (keepAt no) (.loop (loopAt c i))
theorem lpS {V X:Type} {no i:Nat} {c:Code} {O:Nat→Orc} (P:AS) (S:Sig V) (A:Alt X) (L:Nat→Nat→V→Option X) (bs:List Code:=[]) (ha:∀ n,AllLp (O n) E (evalFn E n) n (keepAt no) bs:=by intro _;exact .nil) (hO:∀ n,(O n).CfOk (evalFn E n):=by intro n;exact orcOf_cf _ _ n) (hb:topLoops (loopAt c i)=bs:=by kernel_rfl) (h0:∀ n v,L n 0 v=none:=by intro _ _;rfl)
  (hs:∀ n m v,L n (m+1) v=codeK E (O n) (keepAt no) (loopAt c i) (flAS P (S.pk v)) (fun ex σ'=>match ex with
    | .normal=>bd (mtAS P (Go.Desk.settle (keepOf (keepAt no) (firstId (loopAt c i))) σ')) fun ls=>bd (S.up ls) (L n m)
    | .exit id=>A.dec (.exit id) (Go.Desk.settle (keepOf (keepAt no) (outId (loopAt c i))) σ')
    | .ret=>A.dec .ret (Go.Desk.settle (keepOf (keepAt no) (outId (loopAt c i))) σ')):=by intro _ _ _;kernel_rfl)
  (hW:∀ n (β:Type) (σ:AS) (k:Ex→AS→Option β),(O n).lp (lid (loopAt c i)) σ k=bd (mtAS P σ) fun ls=>bd (S.up ls) fun v=>bd (L n n v) fun x=>A.out x k:=by intro _ _ _ _;kernel_rfl):∀ n,LpS no c i n (O n):=fun n=>lp_pure P S A (L n) (hO n) (lpOk_of hb (ha n)) (h0 n) (hs n) (hW n)
end Go.Proofs.Ytdobhipbgpiceaa.D
end
noncomputable section
namespace Go.Proofs.Ytdobhipbgpiceaa.D
open Go Go.Desk
abbrev qV0:Go.Desk.V:=⟨true,[.sl .own [.leaf,.leaf,.sl .own [.leaf]],.sl .own [.sl .own [.leaf,.leaf,.sl .own [.leaf]],.leaf,.leaf,.leaf,.leaf]],[.lst 0 [],.lst 0 []]⟩
abbrev qV1:Go.Desk.V:=⟨true,[.sl .shr [.leaf,.leaf,.sl .shr [.leaf]],.sl .shr [.sl .shr [.leaf,.leaf,.sl .shr [.leaf]],.leaf,.leaf,.leaf,.leaf]],[.lst 0 [],.lst 0 []]⟩
abbrev qV2:Go.Desk.V:=⟨false,[.rf .own [.sl .shr [.leaf],.leaf,.leaf]],[.ref [.lst 0 [],.int .i64 0,.int .u64 0]]⟩
abbrev qV3:Go.Desk.V:=⟨true,[.leaf,.leaf,.sl .shr [.leaf]],[.int .i64 0,.int .i64 0,.lst 0 []]⟩
abbrev qV4:Go.Desk.V:=⟨false,[.sl .own [.leaf,.leaf,.sl .own [.leaf]]],[.lst 0 []]⟩
abbrev qV5:Go.Desk.V:=⟨false,[.sl .shr [.leaf,.leaf,.sl .shr [.leaf]]],[.lst 0 []]⟩
abbrev qV6:Go.Desk.V:=⟨false,[.sl .shr [.leaf]],[.lst 0 []]⟩
abbrev qV7:Go.Desk.V:=⟨false,[.sl .own [.leaf]],[.lst 0 []]⟩
abbrev qV8:Go.Desk.V:=⟨false,[.leaf],[.bool false]⟩
abbrev qV9:Go.Desk.V:=⟨false,[.leaf],[.int .i64 0]⟩
abbrev qV10:Go.Desk.V:=⟨false,[.leaf],[.flt .f32 0]⟩
abbrev qA11:Arg:=⟨.val,qV10⟩
abbrev qA12:Arg:=⟨.val,qV6⟩
abbrev qA13:Arg:=⟨.iop,qV2⟩
abbrev qA14:Arg:=⟨.val,qV9⟩
abbrev qA15:Arg:=⟨.val,qV3⟩
abbrev qA16:Arg:=⟨.val,qV5⟩
abbrev qA17:Arg:=⟨.val,qV1⟩
abbrev qS18:Slot:=.val false [.rf .shr [.sl .shr [.leaf,.leaf,.sl .shr [.leaf]],.sl .shr [.sl .shr [.leaf,.leaf,.sl .shr [.leaf]],.leaf,.leaf,.leaf,.leaf]]] [.ref [.lst 0 [],.lst 0 []]] [] 0
abbrev qS19:Slot:=.val false [.sl .own [.leaf,.leaf,.sl .own [.leaf]]] [.lst 0 []] [] 0
abbrev qS20:Slot:=.val false [.sl .shr [.leaf,.leaf,.sl .shr [.leaf]]] [.lst 0 []] [] 0
abbrev qS21:Slot:=.val false [.sl .own [.leaf]] [.lst 0 []] [] 0
abbrev qS22:Slot:=.val false [.sl .shr [.leaf]] [.lst 0 []] [] 0
abbrev qS23:Slot:=.val false [.leaf] [.int .i64 0] [] 0
abbrev qS24:Slot:=.val false [.leaf] [.bool false] [] 0
set_option linter.unusedVariables false
def x70.w:FnW E:=xF32bits.w 70 (by kernel_rfl)
def x175.w:FnW E:=xF32frombits.w 175 (by kernel_rfl)
def f32:Nat→Nat→List T→Nat→List T→Option (Bool)
 | 0,_,_,_,_=>none
 | n+1,n1,l2,n3,l4 =>
   br (decide ((n1:Int)>(1048576:Int))) (
    some true) (
    some (decide ((n3:Int)>(1048576:Int))))
def sg_ll:Sig (Nat × List T × Nat × List T) where
 pk:=fun v=>[.lst v.1 v.2.1,.lst v.2.2.1 v.2.2.2]
 up:=fun ls=>match ls with
  | [.lst a0 a1,.lst a2 a3]=>some (a0,a1,a2,a3)
  | _=>none
 ok:=by intro _ _ h;split at h <;>cases h;rfl
def sg_b:Sig (Bool) where
 pk:=fun v=>[.bool v]
 up:=fun ls=>match ls with
  | [.bool a0]=>some a0
  | _=>none
 ok:=by intro _ _ h;split at h <;>cases h;rfl
def f32.P:List Arg:=[qA12,qA12]
def f32.A:RAlt (Bool):=.one ⟨[qV8],[none,none]⟩ sg_b
def f32.F (n:Nat) (v:Nat × List T × Nat × List T):=f32 n v.1 v.2.1 v.2.2.1 v.2.2.2
def f32.O (n:Nat):Orc:=orcOf (E:=E) [] [] n
theorem f32.ok:FnS 32 f32.P sg_ll f32.A f32.F:=fnS c32 f32.O
def f32.w:FnW E:=fnW 32 f32.P sg_ll f32.A f32.F f32.ok
def f64:Nat→Nat→List T→Option (Nat × List T × Int × Int)
 | 0,_,_=>none
 | n+1,n1,l2 =>
   some (n1,l2,(0:Int),(0:Int))
def sg_l:Sig (Nat × List T) where
 pk:=fun v=>[.lst v.1 v.2]
 up:=fun ls=>match ls with
  | [.lst a0 a1]=>some (a0,a1)
  | _=>none
 ok:=by intro _ _ h;split at h <;>cases h;rfl
def sg_lii:Sig (Nat × List T × Int × Int) where
 pk:=fun v=>[.lst v.1 v.2.1,.int v.2.2.1,.int v.2.2.2]
 up:=fun ls=>match ls with
  | [.lst a0 a1,.int a2,.int a3]=>some (a0,a1,a2,a3)
  | _=>none
 ok:=by intro _ _ h;split at h <;>cases h;rfl
def f64.P:List Arg:=[qA12]
def f64.A:RAlt (Nat × List T × Int × Int):=.one ⟨[qV2],[none]⟩ sg_lii
def f64.F (n:Nat) (v:Nat × List T):=f64 n v.1 v.2
def f64.O (n:Nat):Orc:=orcOf (E:=E) [] [] n
theorem f64.ok:FnS 64 f64.P sg_l f64.A f64.F:=fnS c64 f64.O
def f64.w:FnW E:=fnW 64 f64.P sg_l f64.A f64.F f64.ok
def f134:Nat→Nat→List T→Int→Int→Option (Int × Nat × List T × Int × Int)
 | 0,_,_,_,_=>none
 | n+1,n1,l2,i3,i4 =>
   br (decide (i3<(n1:Int))) (
    gd ((decide ((0≤i3)∧(i3<(n1:Int))))&&(okAt [(CK.int .u8)] l2 (Int.toNat i3))) (
    let i5:=(IntKind.i64.wrap (iAt l2 (Int.toNat i3)))
    let i6:=(IntKind.i64.wrap (i3+(1:Int)))
    let i7:=(IntKind.u64.wrap ((IntKind.u64.wrap ((IntKind.u64.wrap (i4 * (6364136223846793005:Int)))+(IntKind.u64.wrap i5)))+(1442695040888963407:Int)))
    br (decide (i6≤(n1:Int))) (
     some (i5,n1,l2,i6,i7)) (
     some ((IntKind.i64.wrap (intBits BinOp.and .u64 (Int.fdiv i7 (1099511627776:Int)) (255:Int))),n1,l2,i6,i7)))) (
    let i8:=(IntKind.i64.wrap (i3+(1:Int)))
    let i9:=(IntKind.u64.wrap ((IntKind.u64.wrap ((IntKind.u64.wrap (i4 * (6364136223846793005:Int)))+(0:Int)))+(1442695040888963407:Int)))
    br (decide (i8≤(n1:Int))) (
     some ((0:Int),n1,l2,i8,i9)) (
     some ((IntKind.i64.wrap (intBits BinOp.and .u64 (Int.fdiv i9 (1099511627776:Int)) (255:Int))),n1,l2,i8,i9)))
def sg_ilii:Sig (Int × Nat × List T × Int × Int) where
 pk:=fun v=>[.int v.1,.lst v.2.1 v.2.2.1,.int v.2.2.2.1,.int v.2.2.2.2]
 up:=fun ls=>match ls with
  | [.int a0,.lst a1 a2,.int a3,.int a4]=>some (a0,a1,a2,a3,a4)
  | _=>none
 ok:=by intro _ _ h;split at h <;>cases h;rfl
def f134.P:List Arg:=[qA13]
def f134.A:RAlt (Int × Nat × List T × Int × Int):=.one ⟨[qV9],[some qV2]⟩ sg_ilii
def f134.F (n:Nat) (v:Nat × List T × Int × Int):=f134 n v.1 v.2.1 v.2.2.1 v.2.2.2
def f134.O (n:Nat):Orc:=orcOf (E:=E) [] [] n
theorem f134.ok:FnS 134 f134.P sg_lii f134.A f134.F:=fnS c134 f134.O
def f134.w:FnW E:=fnW 134 f134.P sg_lii f134.A f134.F f134.ok
def f74:Nat→Nat→List T→Int→Int→Int→Option (Int × Nat × List T × Int × Int)
 | 0,_,_,_,_,_=>none
 | n+1,n1,l2,i3,i4,i5 =>
   br (decide (i5≤(1:Int))) (
    some ((0:Int),n1,l2,i3,i4)) (
    bd (f134 n n1 l2 i3 i4) fun r6 =>
    let i7:=r6.1
    let n8:=r6.2.1
    let l9:=r6.2.2.1
    let i10:=r6.2.2.2.1
    let i11:=r6.2.2.2.2
    br (decide (i5>(200:Int))) (
     bd (f134 n n8 l9 i10 i11) fun r12 =>
     let i13:=r12.1
     let n14:=r12.2.1
     let l15:=r12.2.2.1
     let i16:=r12.2.2.2.1
     let i17:=r12.2.2.2.2
     let i18:=(IntKind.i64.wrap ((IntKind.i64.wrap (i7 * (256:Int)))+i13))
     gd (!(decide (i5=(0:Int)))) (
     some ((Int.tmod i18 i5),n14,l15,i16,i17))) (
     gd (!(decide (i5=(0:Int)))) (
     some ((Int.tmod i7 i5),n8,l9,i10,i11))))
def sg_liii:Sig (Nat × List T × Int × Int × Int) where
 pk:=fun v=>[.lst v.1 v.2.1,.int v.2.2.1,.int v.2.2.2.1,.int v.2.2.2.2]
 up:=fun ls=>match ls with
  | [.lst a0 a1,.int a2,.int a3,.int a4]=>some (a0,a1,a2,a3,a4)
  | _=>none
 ok:=by intro _ _ h;split at h <;>cases h;rfl
def f74.P:List Arg:=[qA13,qA14]
def f74.A:RAlt (Int × Nat × List T × Int × Int):=.one ⟨[qV9],[some qV2,none]⟩ sg_ilii
def f74.F (n:Nat) (v:Nat × List T × Int × Int × Int):=f74 n v.1 v.2.1 v.2.2.1 v.2.2.2.1 v.2.2.2.2
def f74.O (n:Nat):Orc:=orcOf (E:=E) [f134.w] [] n
theorem f74.ok:FnS 74 f74.P sg_liii f74.A f74.F:=fnS c74 f74.O
def f74.w:FnW E:=fnW 74 f74.P sg_liii f74.A f74.F f74.ok
def f130:Nat→Nat→List T→Int→Int→Int→Option (Bool × Nat × List T × Int × Int)
 | 0,_,_,_,_,_=>none
 | n+1,n1,l2,i3,i4,i5 =>
   bd (f74 n n1 l2 i3 i4 i5) fun r6 =>
   let i7:=r6.1
   let n8:=r6.2.1
   let l9:=r6.2.2.1
   let i10:=r6.2.2.2.1
   let i11:=r6.2.2.2.2
   some ((i7==(0:Int)),n8,l9,i10,i11)
def sg_blii:Sig (Bool × Nat × List T × Int × Int) where
 pk:=fun v=>[.bool v.1,.lst v.2.1 v.2.2.1,.int v.2.2.2.1,.int v.2.2.2.2]
 up:=fun ls=>match ls with
  | [.bool a0,.lst a1 a2,.int a3,.int a4]=>some (a0,a1,a2,a3,a4)
  | _=>none
 ok:=by intro _ _ h;split at h <;>cases h;rfl
def f130.P:List Arg:=[qA13,qA14]
def f130.A:RAlt (Bool × Nat × List T × Int × Int):=.one ⟨[qV8],[some qV2,none]⟩ sg_blii
def f130.F (n:Nat) (v:Nat × List T × Int × Int × Int):=f130 n v.1 v.2.1 v.2.2.1 v.2.2.2.1 v.2.2.2.2
def f130.O (n:Nat):Orc:=orcOf (E:=E) [f74.w] [] n
theorem f130.ok:FnS 130 f130.P sg_liii f130.A f130.F:=fnS c130 f130.O
def f130.w:FnW E:=fnW 130 f130.P sg_liii f130.A f130.F f130.ok
def f65:Nat→Nat→List T→Int→Int→Option (Nat × Nat × List T × Int × Int)
 | 0,_,_,_,_=>none
 | n+1,n1,l2,i3,i4 =>
   bd (f74 n n1 l2 i3 i4 (129:Int)) fun r5 =>
   let i6:=r5.1
   let n7:=r5.2.1
   let l8:=r5.2.2.1
   let i9:=r5.2.2.2.1
   let i10:=r5.2.2.2.2
   let i11:=(IntKind.i64.wrap (i6 - (64:Int)))
   bd (f130 n n7 l8 i9 i10 (4:Int)) fun r12 =>
   let b13:=r12.1
   let n14:=r12.2.1
   let l15:=r12.2.2.1
   let i16:=r12.2.2.2.1
   let i17:=r12.2.2.2.2
   br b13 (
    some ((fdiv .f32 (FloatKind.nearest .f32 i11) 1088421888),n14,l15,i16,i17)) (
    some ((fdiv .f32 (FloatKind.nearest .f32 i11) 1098907648),n14,l15,i16,i17))
def sg_flii:Sig (Nat × Nat × List T × Int × Int) where
 pk:=fun v=>[.flt v.1,.lst v.2.1 v.2.2.1,.int v.2.2.2.1,.int v.2.2.2.2]
 up:=fun ls=>match ls with
  | [.flt a0,.lst a1 a2,.int a3,.int a4]=>some (a0,a1,a2,a3,a4)
  | _=>none
 ok:=by intro _ _ h;split at h <;>cases h;rfl
def f65.P:List Arg:=[qA13]
def f65.A:RAlt (Nat × Nat × List T × Int × Int):=.one ⟨[qV10],[some qV2]⟩ sg_flii
def f65.F (n:Nat) (v:Nat × List T × Int × Int):=f65 n v.1 v.2.1 v.2.2.1 v.2.2.2
def f65.O (n:Nat):Orc:=orcOf (E:=E) [f74.w,f130.w] [] n
theorem f65.ok:FnS 65 f65.P sg_lii f65.A f65.F:=fnS c65 f65.O
def f65.w:FnW E:=fnW 65 f65.P sg_lii f65.A f65.F f65.ok
def f139:Nat→Nat→List T→Int→Int→Nat→List T→Option (Int × Nat × List T × Int × Int × Nat × List T)
 | 0,_,_,_,_,_,_=>none
 | n+1,n1,l2,i3,i4,n5,l6 =>
   bd (f74 n n1 l2 i3 i4 (n5:Int)) fun r7 =>
   let i8:=r7.1
   let n9:=r7.2.1
   let l10:=r7.2.2.1
   let i11:=r7.2.2.2.1
   let i12:=r7.2.2.2.2
   gd (decide ((0≤i8)∧(i8<(n5:Int)))) (
   gd (okAt [(CK.int .i64)] l6 (Int.toNat i8)) (
   some ((iAt l6 (Int.toNat i8)),n9,l10,i11,i12,n5,l6)))
def sg_liil:Sig (Nat × List T × Int × Int × Nat × List T) where
 pk:=fun v=>[.lst v.1 v.2.1,.int v.2.2.1,.int v.2.2.2.1,.lst v.2.2.2.2.1 v.2.2.2.2.2]
 up:=fun ls=>match ls with
  | [.lst a0 a1,.int a2,.int a3,.lst a4 a5]=>some (a0,a1,a2,a3,a4,a5)
  | _=>none
 ok:=by intro _ _ h;split at h <;>cases h;rfl
def sg_iliil:Sig (Int × Nat × List T × Int × Int × Nat × List T) where
 pk:=fun v=>[.int v.1,.lst v.2.1 v.2.2.1,.int v.2.2.2.1,.int v.2.2.2.2.1,.lst v.2.2.2.2.2.1 v.2.2.2.2.2.2]
 up:=fun ls=>match ls with
  | [.int a0,.lst a1 a2,.int a3,.int a4,.lst a5 a6]=>some (a0,a1,a2,a3,a4,a5,a6)
  | _=>none
 ok:=by intro _ _ h;split at h <;>cases h;rfl
def f139.P:List Arg:=[qA13,⟨.io,qV7⟩]
def f139.A:RAlt (Int × Nat × List T × Int × Int × Nat × List T):=.one ⟨[qV9],[some qV2,some qV7]⟩ sg_iliil
def f139.F (n:Nat) (v:Nat × List T × Int × Int × Nat × List T):=f139 n v.1 v.2.1 v.2.2.1 v.2.2.2.1 v.2.2.2.2.1 v.2.2.2.2.2
def f139.O (n:Nat):Orc:=orcOf (E:=E) [f74.w] [] n
theorem f139.ok:FnS 139 f139.P sg_liil f139.A f139.F:=fnS c139 f139.O
def f139.w:FnW E:=fnW 139 f139.P sg_liil f139.A f139.F f139.ok
def f138:Nat→Int→Option (Nat)
 | 0,_=>none
 | n+1,i1 =>
   bd (xF32frombits n (IntKind.u32.wrap i1)) fun r2 =>
   let x3:=r2
   some x3
def sg_i:Sig (Int) where
 pk:=fun v=>[.int v]
 up:=fun ls=>match ls with
  | [.int a0]=>some a0
  | _=>none
 ok:=by intro _ _ h;split at h <;>cases h;rfl
def sg_f:Sig (Nat) where
 pk:=fun v=>[.flt v]
 up:=fun ls=>match ls with
  | [.flt a0]=>some a0
  | _=>none
 ok:=by intro _ _ h;split at h <;>cases h;rfl
def f138.P:List Arg:=[qA14]
def f138.A:RAlt (Nat):=.one ⟨[qV10],[none]⟩ sg_f
def f138.F (n:Nat) (v:Int):=f138 n v
def f138.O (n:Nat):Orc:=orcOf (E:=E) [x175.w] [] n
theorem f138.ok:FnS 138 f138.P sg_i f138.A f138.F:=fnS c138 f138.O
def f138.w:FnW E:=fnW 138 f138.P sg_i f138.A f138.F f138.ok
def f86:Nat→Nat→List T→Int→Int→Option (Nat × Nat × List T × Int × Int)
 | 0,_,_,_,_=>none
 | n+1,n1,l2,i3,i4 =>
   bd (f130 n n1 l2 i3 i4 (12:Int)) fun r5 =>
   let b6:=r5.1
   let n7:=r5.2.1
   let l8:=r5.2.2.1
   let i9:=r5.2.2.2.1
   let i10:=r5.2.2.2.2
   br (!b6) (
    bd (f65 n n7 l8 i9 i10) fun r11 =>
    let x12:=r11.1
    let n13:=r11.2.1
    let l14:=r11.2.2.1
    let i15:=r11.2.2.2.1
    let i16:=r11.2.2.2.2
    some (x12,n13,l14,i15,i16)) (
    bd (f74 n n7 l8 i9 i10 (4:Int)) fun r17 =>
    let i18:=r17.1
    let n19:=r17.2.1
    let l20:=r17.2.2.1
    let i21:=r17.2.2.2.1
    let i22:=r17.2.2.2.2
    br (i18==(0:Int)) (
     bd (f139 n n19 l20 i21 i22 10 (setN (setN (setN (setN (setN (setN (setN (setN (setN (setN (reps 10 [(T.int .i64 (0:Int))]) 0 [(T.int .i64 (0:Int))]) 1 [(T.int .i64 (2147483648:Int))]) 2 [(T.int .i64 (2139095040:Int))]) 3 [(T.int .i64 (4286578688:Int))]) 4 [(T.int .i64 (2143289344:Int))]) 5 [(T.int .i64 (1:Int))]) 6 [(T.int .i64 (2139095039:Int))]) 7 [(T.int .i64 (8388608:Int))]) 8 [(T.int .i64 (8388607:Int))]) 9 [(T.int .i64 (2147483649:Int))])) fun r23 =>
     let i24:=r23.1
     let n25:=r23.2.1
     let l26:=r23.2.2.1
     let i27:=r23.2.2.2.1
     let i28:=r23.2.2.2.2.1
     bd (f138 n i24) fun r31 =>
     let x32:=r31
     some (x32,n25,l26,i27,i28)) (
     br (i18==(1:Int)) (
      bd (f74 n n19 l20 i21 i22 (65536:Int)) fun r33 =>
      let i34:=r33.1
      let n35:=r33.2.1
      let l36:=r33.2.2.1
      let i37:=r33.2.2.2.1
      let i38:=r33.2.2.2.2
      let i39:=(IntKind.i64.wrap (i34 * (65536:Int)))
      bd (f74 n n35 l36 i37 i38 (65536:Int)) fun r40 =>
      let i41:=r40.1
      let n42:=r40.2.1
      let l43:=r40.2.2.1
      let i44:=r40.2.2.2.1
      let i45:=r40.2.2.2.2
      bd (f138 n (IntKind.i64.wrap (i39+i41))) fun r46 =>
      let x47:=r46
      some (x47,n42,l43,i44,i45)) (
      br (i18==(2:Int)) (
       bd (f74 n n19 l20 i21 i22 (65536:Int)) fun r48 =>
       let i49:=r48.1
       let n50:=r48.2.1
       let l51:=r48.2.2.1
       let i52:=r48.2.2.2.1
       let i53:=r48.2.2.2.2
       bd (f138 n (IntKind.i64.wrap (i49 * (65536:Int)))) fun r54 =>
       let x55:=r54
       some (x55,n50,l51,i52,i53)) (
       bd (f65 n n19 l20 i21 i22) fun r56 =>
       let x57:=r56.1
       let n58:=r56.2.1
       let l59:=r56.2.2.1
       let i60:=r56.2.2.2.1
       let i61:=r56.2.2.2.2
       bd (f139 n n58 l59 i60 i61 4 (setN (setN (setN (setN (reps 4 [(T.int .i64 (0:Int))]) 0 [(T.int .i64 (8388608:Int))]) 1 [(T.int .i64 (2130706432:Int))]) 2 [(T.int .i64 (1610612736:Int))]) 3 [(T.int .i64 (536870912:Int))])) fun r62 =>
       let i63:=r62.1
       let n64:=r62.2.1
       let l65:=r62.2.2.1
       let i66:=r62.2.2.2.1
       let i67:=r62.2.2.2.2.1
       bd (f138 n i63) fun r70 =>
       let x71:=r70
       some ((fmul .f32 x57 x71),n64,l65,i66,i67)))))
def f86.P:List Arg:=[qA13]
def f86.A:RAlt (Nat × Nat × List T × Int × Int):=.one ⟨[qV10],[some qV2]⟩ sg_flii
def f86.F (n:Nat) (v:Nat × List T × Int × Int):=f86 n v.1 v.2.1 v.2.2.1 v.2.2.2
def f86.O (n:Nat):Orc:=orcOf (E:=E) [f74.w,f130.w,f65.w,f139.w,f138.w] [] n
theorem f86.ok:FnS 86 f86.P sg_lii f86.A f86.F:=fnS c86 f86.O
def f86.w:FnW E:=fnW 86 f86.P sg_lii f86.A f86.F f86.ok
def f165:Nat→Nat→List T→Int→Int→Option (Nat × Nat × List T × Int × Int)
 | 0,_,_,_,_=>none
 | n+1,n1,l2,i3,i4 =>
   bd (f130 n n1 l2 i3 i4 (10:Int)) fun r5 =>
   let b6:=r5.1
   let n7:=r5.2.1
   let l8:=r5.2.2.1
   let i9:=r5.2.2.2.1
   let i10:=r5.2.2.2.2
   br b6 (
    bd (f86 n n7 l8 i9 i10) fun r11 =>
    let x12:=r11.1
    let n13:=r11.2.1
    let l14:=r11.2.2.1
    let i15:=r11.2.2.2.1
    let i16:=r11.2.2.2.2
    some (x12,n13,l14,i15,i16)) (
    bd (f74 n n7 l8 i9 i10 (17:Int)) fun r17 =>
    let i18:=r17.1
    let n19:=r17.2.1
    let l20:=r17.2.2.1
    let i21:=r17.2.2.2.1
    let i22:=r17.2.2.2.2
    some ((fdiv .f32 (FloatKind.nearest .f32 i18) 1098907648),n19,l20,i21,i22))
def f165.P:List Arg:=[qA13]
def f165.A:RAlt (Nat × Nat × List T × Int × Int):=.one ⟨[qV10],[some qV2]⟩ sg_flii
def f165.F (n:Nat) (v:Nat × List T × Int × Int):=f165 n v.1 v.2.1 v.2.2.1 v.2.2.2
def f165.O (n:Nat):Orc:=orcOf (E:=E) [f74.w,f130.w,f86.w] [] n
theorem f165.ok:FnS 165 f165.P sg_lii f165.A f165.F:=fnS c165 f165.O
def f165.w:FnW E:=fnW 165 f165.P sg_lii f165.A f165.F f165.ok
def f141:Nat→Nat→List T→Int→Int→Option (Nat × Nat × List T × Int × Int)
 | 0,_,_,_,_=>none
 | n+1,n1,l2,i3,i4 =>
   bd (f130 n n1 l2 i3 i4 (8:Int)) fun r5 =>
   let b6:=r5.1
   let n7:=r5.2.1
   let l8:=r5.2.2.1
   let i9:=r5.2.2.2.1
   let i10:=r5.2.2.2.2
   br b6 (
    bd (f86 n n7 l8 i9 i10) fun r11 =>
    let x12:=r11.1
    let n13:=r11.2.1
    let l14:=r11.2.2.1
    let i15:=r11.2.2.2.1
    let i16:=r11.2.2.2.2
    some (x12,n13,l14,i15,i16)) (
    bd (f130 n n7 l8 i9 i10 (3:Int)) fun r17 =>
    let b18:=r17.1
    let n19:=r17.2.1
    let l20:=r17.2.2.1
    let i21:=r17.2.2.2.1
    let i22:=r17.2.2.2.2
    br b18 (
     some (0,n19,l20,i21,i22)) (
     bd (f74 n n19 l20 i21 i22 (33:Int)) fun r23 =>
     let i24:=r23.1
     let n25:=r23.2.1
     let l26:=r23.2.2.1
     let i27:=r23.2.2.2.1
     let i28:=r23.2.2.2.2
     some ((fdiv .f32 (FloatKind.nearest .f32 (IntKind.i64.wrap (i24 - (16:Int)))) 1090519040),n25,l26,i27,i28)))
def f141.P:List Arg:=[qA13]
def f141.A:RAlt (Nat × Nat × List T × Int × Int):=.one ⟨[qV10],[some qV2]⟩ sg_flii
def f141.F (n:Nat) (v:Nat × List T × Int × Int):=f141 n v.1 v.2.1 v.2.2.1 v.2.2.2
def f141.O (n:Nat):Orc:=orcOf (E:=E) [f74.w,f130.w,f86.w] [] n
theorem f141.ok:FnS 141 f141.P sg_lii f141.A f141.F:=fnS c141 f141.O
def f141.w:FnW E:=fnW 141 f141.P sg_lii f141.A f141.F f141.ok
def f93:Nat→Nat→List T→Int→Int→Option (Nat × Nat × Nat × Nat × Nat × Nat × List T × Int × Int)
 | 0,_,_,_,_=>none
 | n+1,n1,l2,i3,i4 =>
   bd (f141 n n1 l2 i3 i4) fun r5 =>
   let x6:=r5.1
   let n7:=r5.2.1
   let l8:=r5.2.2.1
   let i9:=r5.2.2.2.1
   let i10:=r5.2.2.2.2
   bd (f141 n n7 l8 i9 i10) fun r11 =>
   let x12:=r11.1
   let n13:=r11.2.1
   let l14:=r11.2.2.1
   let i15:=r11.2.2.2.1
   let i16:=r11.2.2.2.2
   bd (f141 n n13 l14 i15 i16) fun r17 =>
   let x18:=r17.1
   let n19:=r17.2.1
   let l20:=r17.2.2.1
   let i21:=r17.2.2.2.1
   let i22:=r17.2.2.2.2
   bd (f74 n n19 l20 i21 i22 (15:Int)) fun r23 =>
   let i24:=r23.1
   let n25:=r23.2.1
   let l26:=r23.2.2.1
   let i27:=r23.2.2.2.1
   let i28:=r23.2.2.2.2
   let x29:=(fdiv .f32 (FloatKind.nearest .f32 (IntKind.i64.wrap (i24 - (7:Int)))) 1090519040)
   bd (f74 n n25 l26 i27 i28 (7:Int)) fun r30 =>
   let i31:=r30.1
   let n32:=r30.2.1
   let l33:=r30.2.2.1
   let i34:=r30.2.2.2.1
   let i35:=r30.2.2.2.2
   let x36:=(fdiv .f32 (FloatKind.nearest .f32 (IntKind.i64.wrap (i31 - (3:Int)))) 1090519040)
   bd (f130 n n32 l33 i34 i35 (4:Int)) fun r37 =>
   let b38:=r37.1
   let n39:=r37.2.1
   let l40:=r37.2.2.1
   let i41:=r37.2.2.2.1
   let i42:=r37.2.2.2.2
   br b38 (
    bd (f141 n n39 l40 i41 i42) fun r43 =>
    let x44:=r43.1
    let n45:=r43.2.1
    let l46:=r43.2.2.1
    let i47:=r43.2.2.2.1
    let i48:=r43.2.2.2.2
    bd (f130 n n45 l46 i47 i48 (4:Int)) fun r49 =>
    let b50:=r49.1
    let n51:=r49.2.1
    let l52:=r49.2.2.1
    let i53:=r49.2.2.2.1
    let i54:=r49.2.2.2.2
    br b50 (
     bd (f141 n n51 l52 i53 i54) fun r55 =>
     let x56:=r55.1
     let n57:=r55.2.1
     let l58:=r55.2.2.1
     let i59:=r55.2.2.2.1
     let i60:=r55.2.2.2.2
     some (x6,x12,x18,x44,x56,n57,l58,i59,i60)) (
     some (x6,x12,x18,x44,x36,n51,l52,i53,i54))) (
    bd (f130 n n39 l40 i41 i42 (4:Int)) fun r61 =>
    let b62:=r61.1
    let n63:=r61.2.1
    let l64:=r61.2.2.1
    let i65:=r61.2.2.2.1
    let i66:=r61.2.2.2.2
    br b62 (
     bd (f141 n n63 l64 i65 i66) fun r67 =>
     let x68:=r67.1
     let n69:=r67.2.1
     let l70:=r67.2.2.1
     let i71:=r67.2.2.2.1
     let i72:=r67.2.2.2.2
     some (x6,x12,x18,x29,x68,n69,l70,i71,i72)) (
     some (x6,x12,x18,x29,x36,n63,l64,i65,i66)))
def sg_ffffflii:Sig (Nat × Nat × Nat × Nat × Nat × Nat × List T × Int × Int) where
 pk:=fun v=>[.flt v.1,.flt v.2.1,.flt v.2.2.1,.flt v.2.2.2.1,.flt v.2.2.2.2.1,.lst v.2.2.2.2.2.1 v.2.2.2.2.2.2.1,.int v.2.2.2.2.2.2.2.1,.int v.2.2.2.2.2.2.2.2]
 up:=fun ls=>match ls with
  | [.flt a0,.flt a1,.flt a2,.flt a3,.flt a4,.lst a5 a6,.int a7,.int a8]=>some (a0,a1,a2,a3,a4,a5,a6,a7,a8)
  | _=>none
 ok:=by intro _ _ h;split at h <;>cases h;rfl
def f93.P:List Arg:=[qA13]
def f93.A:RAlt (Nat × Nat × Nat × Nat × Nat × Nat × List T × Int × Int):=.one ⟨[⟨true,[.leaf,.leaf,.leaf,.leaf,.leaf],[.flt .f32 0,.flt .f32 0,.flt .f32 0,.flt .f32 0,.flt .f32 0]⟩],[some qV2]⟩ sg_ffffflii
def f93.F (n:Nat) (v:Nat × List T × Int × Int):=f93 n v.1 v.2.1 v.2.2.1 v.2.2.2
def f93.O (n:Nat):Orc:=orcOf (E:=E) [f74.w,f130.w,f141.w] [] n
theorem f93.ok:FnS 93 f93.P sg_lii f93.A f93.F:=fnS c93 f93.O
def f93.w:FnW E:=fnW 93 f93.P sg_lii f93.A f93.F f93.ok
def f188:Nat→Nat→List T→Int→Int→Option (Nat × Nat × Nat × Nat × List T × Int × Int)
 | 0,_,_,_,_=>none
 | n+1,n1,l2,i3,i4 =>
   bd (f165 n n1 l2 i3 i4) fun r5 =>
   let x6:=r5.1
   let n7:=r5.2.1
   let l8:=r5.2.2.1
   let i9:=r5.2.2.2.1
   let i10:=r5.2.2.2.2
   bd (f165 n n7 l8 i9 i10) fun r11 =>
   let x12:=r11.1
   let n13:=r11.2.1
   let l14:=r11.2.2.1
   let i15:=r11.2.2.2.1
   let i16:=r11.2.2.2.2
   bd (f130 n n13 l14 i15 i16 (2:Int)) fun r17 =>
   let b18:=r17.1
   let n19:=r17.2.1
   let l20:=r17.2.2.1
   let i21:=r17.2.2.2.1
   let i22:=r17.2.2.2.2
   br b18 (
    bd (f86 n n19 l20 i21 i22) fun r23 =>
    let x24:=r23.1
    let n25:=r23.2.1
    let l26:=r23.2.2.1
    let i27:=r23.2.2.2.1
    let i28:=r23.2.2.2.2
    some (x6,x12,x24,n25,l26,i27,i28)) (
    some (x6,x12,0,n19,l20,i21,i22))
def sg_ffflii:Sig (Nat × Nat × Nat × Nat × List T × Int × Int) where
 pk:=fun v=>[.flt v.1,.flt v.2.1,.flt v.2.2.1,.lst v.2.2.2.1 v.2.2.2.2.1,.int v.2.2.2.2.2.1,.int v.2.2.2.2.2.2]
 up:=fun ls=>match ls with
  | [.flt a0,.flt a1,.flt a2,.lst a3 a4,.int a5,.int a6]=>some (a0,a1,a2,a3,a4,a5,a6)
  | _=>none
 ok:=by intro _ _ h;split at h <;>cases h;rfl
def f188.P:List Arg:=[qA13]
def f188.A:RAlt (Nat × Nat × Nat × Nat × List T × Int × Int):=.one ⟨[⟨true,[.leaf,.leaf,.leaf],[.flt .f32 0,.flt .f32 0,.flt .f32 0]⟩],[some qV2]⟩ sg_ffflii
def f188.F (n:Nat) (v:Nat × List T × Int × Int):=f188 n v.1 v.2.1 v.2.2.1 v.2.2.2
def f188.O (n:Nat):Orc:=orcOf (E:=E) [f130.w,f86.w,f165.w] [] n
theorem f188.ok:FnS 188 f188.P sg_lii f188.A f188.F:=fnS c188 f188.O
def f188.w:FnW E:=fnW 188 f188.P sg_lii f188.A f188.F f188.ok
def f166:Nat→Nat→List T→Int→Int→Option (Nat × Nat × Nat × Nat × Nat × Nat × List T × Int × Int)
 | 0,_,_,_,_=>none
 | n+1,n1,l2,i3,i4 =>
   bd (f188 n n1 l2 i3 i4) fun r5 =>
   let x6:=r5.1
   let x7:=r5.2.1
   let x8:=r5.2.2.1
   let n9:=r5.2.2.2.1
   let l10:=r5.2.2.2.2.1
   let i11:=r5.2.2.2.2.2.1
   let i12:=r5.2.2.2.2.2.2
   bd (f165 n n9 l10 i11 i12) fun r13 =>
   let x14:=r13.1
   let n15:=r13.2.1
   let l16:=r13.2.2.1
   let i17:=r13.2.2.2.1
   let i18:=r13.2.2.2.2
   bd (f74 n n15 l16 i17 i18 (8:Int)) fun r19 =>
   let i20:=r19.1
   let n21:=r19.2.1
   let l22:=r19.2.2.1
   let i23:=r19.2.2.2.1
   let i24:=r19.2.2.2.2
   let x25:=(FloatKind.nearest .f32 (IntKind.i64.wrap ((1:Int)+i20)))
   bd (f130 n n21 l22 i23 i24 (10:Int)) fun r26 =>
   let b27:=r26.1
   let n28:=r26.2.1
   let l29:=r26.2.2.1
   let i30:=r26.2.2.2.1
   let i31:=r26.2.2.2.2
   br b27 (
    bd (f86 n n28 l29 i30 i31) fun r32 =>
    let x33:=r32.1
    let n34:=r32.2.1
    let l35:=r32.2.2.1
    let i36:=r32.2.2.2.1
    let i37:=r32.2.2.2.2
    some (x6,x7,x8,x14,x33,n34,l35,i36,i37)) (
    some (x6,x7,x8,x14,x25,n28,l29,i30,i31))
def f166.P:List Arg:=[qA13]
def f166.A:RAlt (Nat × Nat × Nat × Nat × Nat × Nat × List T × Int × Int):=.one ⟨[⟨true,[.leaf,.leaf,.leaf,.leaf,.leaf],[.flt .f32 0,.flt .f32 0,.flt .f32 0,.flt .f32 0,.flt .f32 0]⟩],[some qV2]⟩ sg_ffffflii
def f166.F (n:Nat) (v:Nat × List T × Int × Int):=f166 n v.1 v.2.1 v.2.2.1 v.2.2.2
def f166.O (n:Nat):Orc:=orcOf (E:=E) [f74.w,f130.w,f86.w,f165.w,f188.w] [] n
theorem f166.ok:FnS 166 f166.P sg_lii f166.A f166.F:=fnS c166 f166.O
def f166.w:FnW E:=fnW 166 f166.P sg_lii f166.A f166.F f166.ok
def f132:Nat→Nat→List T→Int→Int→Option (Int × Int × Nat × List T × Nat × List T × Int × Int)
 | 0,_,_,_,_=>none
 | n+1,n1,l2,i3,i4 =>
   bd (f74 n n1 l2 i3 i4 (7:Int)) fun r5 =>
   let i6:=r5.1
   let n7:=r5.2.1
   let l8:=r5.2.2.1
   let i9:=r5.2.2.2.1
   let i10:=r5.2.2.2.2
   br (i6==(0:Int)) (
    br (i6==(0:Int)) (
     bd (f165 n n7 l8 i9 i10) fun r11 =>
     let x12:=r11.1
     let n13:=r11.2.1
     let l14:=r11.2.2.1
     let i15:=r11.2.2.2.1
     let i16:=r11.2.2.2.2
     let l17:=((reps 0 [(T.flt .f32 0)])++(setN (reps 1 [(T.flt .f32 0)]) 0 [(T.flt .f32 x12)]))
     some (i6,(0:Int),1,l17,n13,l14,i15,i16)) (
     br (i6==(1:Int)) (
      bd (f93 n n7 l8 i9 i10) fun r18 =>
      let x19:=r18.1
      let x20:=r18.2.1
      let x21:=r18.2.2.1
      let x22:=r18.2.2.2.1
      let x23:=r18.2.2.2.2.1
      let n24:=r18.2.2.2.2.2.1
      let l25:=r18.2.2.2.2.2.2.1
      let i26:=r18.2.2.2.2.2.2.2.1
      let i27:=r18.2.2.2.2.2.2.2.2
      let l28:=(setN (setN (setN (setN (setN (reps 5 [(T.flt .f32 0)]) 0 [(T.flt .f32 x19)]) 1 [(T.flt .f32 x20)]) 2 [(T.flt .f32 x21)]) 3 [(T.flt .f32 x22)]) 4 [(T.flt .f32 x23)])
      some (i6,(0:Int),5,l28,n24,l25,i26,i27)) (
      br (i6==(2:Int)) (
       bd (f74 n n7 l8 i9 i10 (5:Int)) fun r29 =>
       let i30:=r29.1
       let n31:=r29.2.1
       let l32:=r29.2.2.1
       let i33:=r29.2.2.2.1
       let i34:=r29.2.2.2.2
       let i35:=(IntKind.i64.wrap ((1:Int)+i30))
       bd (f165 n n31 l32 i33 i34) fun r36 =>
       let x37:=r36.1
       let n38:=r36.2.1
       let l39:=r36.2.2.1
       let i40:=r36.2.2.2.1
       let i41:=r36.2.2.2.2
       let l42:=((reps 0 [(T.flt .f32 0)])++(setN (reps 1 [(T.flt .f32 0)]) 0 [(T.flt .f32 x37)]))
       bd (f165 n n38 l39 i40 i41) fun r43 =>
       let x44:=r43.1
       let n45:=r43.2.1
       let l46:=r43.2.2.1
       let i47:=r43.2.2.2.1
       let i48:=r43.2.2.2.2
       let l49:=(l42++(setN (reps 1 [(T.flt .f32 0)]) 0 [(T.flt .f32 x44)]))
       some (i6,i35,2,l49,n45,l46,i47,i48)) (
       br (i6==(3:Int)) (
        bd (f166 n n7 l8 i9 i10) fun r50 =>
        let x51:=r50.1
        let x52:=r50.2.1
        let x54:=r50.2.2.2.1
        let x55:=r50.2.2.2.2.1
        let n56:=r50.2.2.2.2.2.1
        let l57:=r50.2.2.2.2.2.2.1
        let i58:=r50.2.2.2.2.2.2.2.1
        let i59:=r50.2.2.2.2.2.2.2.2
        let l60:=(setN (setN (setN (setN (reps 4 [(T.flt .f32 0)]) 0 [(T.flt .f32 x51)]) 1 [(T.flt .f32 x52)]) 2 [(T.flt .f32 x54)]) 3 [(T.flt .f32 x55)])
        some (i6,(0:Int),4,l60,n56,l57,i58,i59)) (
        br (i6==(6:Int)) (
         bd (f74 n n7 l8 i9 i10 (5:Int)) fun r61 =>
         let i62:=r61.1
         let n63:=r61.2.1
         let l64:=r61.2.2.1
         let i65:=r61.2.2.2.1
         let i66:=r61.2.2.2.2
         bd (f74 n n63 l64 i65 i66 (16:Int)) fun r67 =>
         let i68:=r67.1
         let n69:=r67.2.1
         let l70:=r67.2.2.1
         let i71:=r67.2.2.2.1
         let i72:=r67.2.2.2.2
         let l73:=((reps 0 [(T.flt .f32 0)])++(setN (reps 1 [(T.flt .f32 0)]) 0 [(T.flt .f32 (fdiv .f32 (FloatKind.nearest .f32 (IntKind.i64.wrap ((1:Int)+i68))) 1098907648))]))
         bd (f165 n n69 l70 i71 i72) fun r74 =>
         let x75:=r74.1
         let n76:=r74.2.1
         let l77:=r74.2.2.1
         let i78:=r74.2.2.2.1
         let i79:=r74.2.2.2.2
         let l80:=(l73++(setN (reps 1 [(T.flt .f32 0)]) 0 [(T.flt .f32 x75)]))
         some (i6,i62,2,l80,n76,l77,i78,i79)) (
         some (i6,(0:Int),0,(reps 0 [(T.flt .f32 0)]),n7,l8,i9,i10))))))) (
    br (i6==(4:Int)) (
     bd (f165 n n7 l8 i9 i10) fun r81 =>
     let x82:=r81.1
     let n83:=r81.2.1
     let l84:=r81.2.2.1
     let i85:=r81.2.2.2.1
     let i86:=r81.2.2.2.2
     let l87:=((reps 0 [(T.flt .f32 0)])++(setN (reps 1 [(T.flt .f32 0)]) 0 [(T.flt .f32 x82)]))
     some (i6,(0:Int),1,l87,n83,l84,i85,i86)) (
     br (i6==(1:Int)) (
      bd (f93 n n7 l8 i9 i10) fun r88 =>
      let x89:=r88.1
      let x90:=r88.2.1
      let x91:=r88.2.2.1
      let x92:=r88.2.2.2.1
      let x93:=r88.2.2.2.2.1
      let n94:=r88.2.2.2.2.2.1
      let l95:=r88.2.2.2.2.2.2.1
      let i96:=r88.2.2.2.2.2.2.2.1
      let i97:=r88.2.2.2.2.2.2.2.2
      let l98:=(setN (setN (setN (setN (setN (reps 5 [(T.flt .f32 0)]) 0 [(T.flt .f32 x89)]) 1 [(T.flt .f32 x90)]) 2 [(T.flt .f32 x91)]) 3 [(T.flt .f32 x92)]) 4 [(T.flt .f32 x93)])
      some (i6,(0:Int),5,l98,n94,l95,i96,i97)) (
      br (i6==(2:Int)) (
       bd (f74 n n7 l8 i9 i10 (5:Int)) fun r99 =>
       let i100:=r99.1
       let n101:=r99.2.1
       let l102:=r99.2.2.1
       let i103:=r99.2.2.2.1
       let i104:=r99.2.2.2.2
       let i105:=(IntKind.i64.wrap ((1:Int)+i100))
       bd (f165 n n101 l102 i103 i104) fun r106 =>
       let x107:=r106.1
       let n108:=r106.2.1
       let l109:=r106.2.2.1
       let i110:=r106.2.2.2.1
       let i111:=r106.2.2.2.2
       let l112:=((reps 0 [(T.flt .f32 0)])++(setN (reps 1 [(T.flt .f32 0)]) 0 [(T.flt .f32 x107)]))
       bd (f165 n n108 l109 i110 i111) fun r113 =>
       let x114:=r113.1
       let n115:=r113.2.1
       let l116:=r113.2.2.1
       let i117:=r113.2.2.2.1
       let i118:=r113.2.2.2.2
       let l119:=(l112++(setN (reps 1 [(T.flt .f32 0)]) 0 [(T.flt .f32 x114)]))
       some (i6,i105,2,l119,n115,l116,i117,i118)) (
       br (i6==(3:Int)) (
        bd (f166 n n7 l8 i9 i10) fun r120 =>
        let x121:=r120.1
        let x122:=r120.2.1
        let x124:=r120.2.2.2.1
        let x125:=r120.2.2.2.2.1
        let n126:=r120.2.2.2.2.2.1
        let l127:=r120.2.2.2.2.2.2.1
        let i128:=r120.2.2.2.2.2.2.2.1
        let i129:=r120.2.2.2.2.2.2.2.2
        let l130:=(setN (setN (setN (setN (reps 4 [(T.flt .f32 0)]) 0 [(T.flt .f32 x121)]) 1 [(T.flt .f32 x122)]) 2 [(T.flt .f32 x124)]) 3 [(T.flt .f32 x125)])
        some (i6,(0:Int),4,l130,n126,l127,i128,i129)) (
        br (i6==(6:Int)) (
         bd (f74 n n7 l8 i9 i10 (5:Int)) fun r131 =>
         let i132:=r131.1
         let n133:=r131.2.1
         let l134:=r131.2.2.1
         let i135:=r131.2.2.2.1
         let i136:=r131.2.2.2.2
         bd (f74 n n133 l134 i135 i136 (16:Int)) fun r137 =>
         let i138:=r137.1
         let n139:=r137.2.1
         let l140:=r137.2.2.1
         let i141:=r137.2.2.2.1
         let i142:=r137.2.2.2.2
         let l143:=((reps 0 [(T.flt .f32 0)])++(setN (reps 1 [(T.flt .f32 0)]) 0 [(T.flt .f32 (fdiv .f32 (FloatKind.nearest .f32 (IntKind.i64.wrap ((1:Int)+i138))) 1098907648))]))
         bd (f165 n n139 l140 i141 i142) fun r144 =>
         let x145:=r144.1
         let n146:=r144.2.1
         let l147:=r144.2.2.1
         let i148:=r144.2.2.2.1
         let i149:=r144.2.2.2.2
         let l150:=(l143++(setN (reps 1 [(T.flt .f32 0)]) 0 [(T.flt .f32 x145)]))
         some (i6,i132,2,l150,n146,l147,i148,i149)) (
         some (i6,(0:Int),0,(reps 0 [(T.flt .f32 0)]),n7,l8,i9,i10)))))))
def sg_iillii:Sig (Int × Int × Nat × List T × Nat × List T × Int × Int) where
 pk:=fun v=>[.int v.1,.int v.2.1,.lst v.2.2.1 v.2.2.2.1,.lst v.2.2.2.2.1 v.2.2.2.2.2.1,.int v.2.2.2.2.2.2.1,.int v.2.2.2.2.2.2.2]
 up:=fun ls=>match ls with
  | [.int a0,.int a1,.lst a2 a3,.lst a4 a5,.int a6,.int a7]=>some (a0,a1,a2,a3,a4,a5,a6,a7)
  | _=>none
 ok:=by intro _ _ h;split at h <;>cases h;rfl
def f132.P:List Arg:=[qA13]
def f132.A:RAlt (Int × Int × Nat × List T × Nat × List T × Int × Int):=.one ⟨[⟨true,[.leaf,.leaf,.sl .own [.leaf]],[.int .i64 0,.int .i64 0,.lst 0 []]⟩],[some qV2]⟩ sg_iillii
def f132.F (n:Nat) (v:Nat × List T × Int × Int):=f132 n v.1 v.2.1 v.2.2.1 v.2.2.2
def f132.O (n:Nat):Orc:=orcOf (E:=E) [f74.w,f165.w,f93.w,f166.w] [] n
theorem f132.ok:FnS 132 f132.P sg_lii f132.A f132.F:=fnS c132 f132.O
def f132.w:FnW E:=fnW 132 f132.P sg_lii f132.A f132.F f132.ok
def f71.l0 (n:Nat):Nat→Nat→List T→Int→Int→Nat→List T→Int→Option (Nat × List T × Int × Int × Nat × List T)
 | 0,_,_,_,_,_,_,_=>none
 | m+1,n1,l2,i3,i4,n5,l6,i7 =>
   br (decide (i7>(0:Int))) (
    bd (f132 n n1 l2 i3 i4) fun r8 =>
    let i9:=r8.1
    let i10:=r8.2.1
    let n11:=r8.2.2.1
    let l12:=r8.2.2.2.1
    let n13:=r8.2.2.2.2.1
    let l14:=r8.2.2.2.2.2.1
    let i15:=r8.2.2.2.2.2.2.1
    let i16:=r8.2.2.2.2.2.2.2
    gd (Nat.ble (n5+1) 2147483648) (
    let n17:=(n5+1)
    let l18:=(l6++(setN (reps 1 [(T.int .i64 (0:Int)),(T.int .i64 (0:Int)),(T.lst 0 [])]) 0 [(T.int .i64 i9),(T.int .i64 i10),(T.lst n11 l12)]))
    f71.l0 n m n13 l14 i15 i16 n17 l18 (IntKind.i64.wrap (i7 - (1:Int))))) (
    some (n1,l2,i3,i4,n5,l6))
def f71:Nat→Nat→List T→Int→Int→Option (Nat × List T × Nat × List T × Int × Int)
 | 0,_,_,_,_=>none
 | n+1,n1,l2,i3,i4 =>
   bd (f74 n n1 l2 i3 i4 (5:Int)) fun r5 =>
   let i6:=r5.1
   let n7:=r5.2.1
   let l8:=r5.2.2.1
   let i9:=r5.2.2.2.1
   let i10:=r5.2.2.2.2
   bd (f130 n n7 l8 i9 i10 (24:Int)) fun r11 =>
   let b12:=r11.1
   let n13:=r11.2.1
   let l14:=r11.2.2.1
   let i15:=r11.2.2.2.1
   let i16:=r11.2.2.2.2
   br b12 (
    bd (f71.l0 n n n13 l14 i15 i16 0 (reps 0 [(T.int .i64 (0:Int)),(T.int .i64 (0:Int)),(T.lst 0 [])]) (8:Int)) fun r17 =>
    let n18:=r17.1
    let l19:=r17.2.1
    let i20:=r17.2.2.1
    let i21:=r17.2.2.2.1
    let n22:=r17.2.2.2.2.1
    let l23:=r17.2.2.2.2.2
    some (n22,l23,n18,l19,i20,i21)) (
    bd (f71.l0 n n n13 l14 i15 i16 0 (reps 0 [(T.int .i64 (0:Int)),(T.int .i64 (0:Int)),(T.lst 0 [])]) i6) fun r24 =>
    let n25:=r24.1
    let l26:=r24.2.1
    let i27:=r24.2.2.1
    let i28:=r24.2.2.2.1
    let n29:=r24.2.2.2.2.1
    let l30:=r24.2.2.2.2.2
    some (n29,l30,n25,l26,i27,i28))
def sg_llii:Sig (Nat × List T × Nat × List T × Int × Int) where
 pk:=fun v=>[.lst v.1 v.2.1,.lst v.2.2.1 v.2.2.2.1,.int v.2.2.2.2.1,.int v.2.2.2.2.2]
 up:=fun ls=>match ls with
  | [.lst a0 a1,.lst a2 a3,.int a4,.int a5]=>some (a0,a1,a2,a3,a4,a5)
  | _=>none
 ok:=by intro _ _ h;split at h <;>cases h;rfl
def sg_liili:Sig (Nat × List T × Int × Int × Nat × List T × Int) where
 pk:=fun v=>[.lst v.1 v.2.1,.int v.2.2.1,.int v.2.2.2.1,.lst v.2.2.2.2.1 v.2.2.2.2.2.1,.int v.2.2.2.2.2.2]
 up:=fun ls=>match ls with
  | [.lst a0 a1,.int a2,.int a3,.lst a4 a5,.int a6]=>some (a0,a1,a2,a3,a4,a5,a6)
  | _=>none
 ok:=by intro _ _ h;split at h <;>cases h;rfl
def f71.l0.P:AS:=⟨[(0,.box [.sl .shr [.leaf],.leaf,.leaf] [.lst 0 [],.int .i64 0,.int .u64 0] [] 0),(3,qS19),(4,qS23)],0⟩
def f71.l0.A:Alt (Nat × List T × Int × Int × Nat × List T):=.one (.exit 0) ⟨[(0,.box [.sl .shr [.leaf],.leaf,.leaf] [.lst 0 [],.int .i64 0,.int .u64 0] [] 0),(3,qS19)],0⟩ sg_liil
def f71.l0.F (n m:Nat) (v:Nat × List T × Int × Int × Nat × List T × Int):=f71.l0 n m v.1 v.2.1 v.2.2.1 v.2.2.2.1 v.2.2.2.2.1 v.2.2.2.2.2.1 v.2.2.2.2.2.2
def f71.l0.W (n:Nat):LpW:=.of 80 f71.l0.P sg_liili f71.l0.A (f71.l0.F n n)
def f71.P:List Arg:=[qA13]
def f71.A:RAlt (Nat × List T × Nat × List T × Int × Int):=.one ⟨[qV4],[some qV2]⟩ sg_llii
def f71.F (n:Nat) (v:Nat × List T × Int × Int):=f71 n v.1 v.2.1 v.2.2.1 v.2.2.2
def f71.O (n:Nat):Orc:=orcOf (E:=E) [f74.w,f130.w,f132.w] [f71.l0.W n] n
theorem f71.l0.ok:∀ n,LpS 71 c71 0 n (f71.O n):=lpS f71.l0.P sg_liili f71.l0.A f71.l0.F
theorem f71.ok:FnS 71 f71.P sg_lii f71.A f71.F:=fnS c71 f71.O [loopAt c71 0] (fun n=>(.cons (f71.l0.ok n) .nil))
def f71.w:FnW E:=fnW 71 f71.P sg_lii f71.A f71.F f71.ok
def f98.l0 (n:Nat):Nat→Nat→List T→Int→Int→Nat→List T→Nat→List T→Nat→List T→Nat→List T→Int→Option (Nat × List T × Int × Int × Nat × List T × Nat × List T × Nat × List T × Nat × List T)
 | 0,_,_,_,_,_,_,_,_,_,_,_,_,_=>none
 | m+1,n1,l2,i3,i4,n5,l6,n7,l8,n9,l10,n11,l12,i13 =>
   br (decide (i13>(0:Int))) (
    bd (f130 n n1 l2 i3 i4 (6:Int)) fun r14 =>
    let b15:=r14.1
    let n16:=r14.2.1
    let l17:=r14.2.2.1
    let i18:=r14.2.2.2.1
    let i19:=r14.2.2.2.2
    bd (f130 n n16 l17 i18 i19 (8:Int)) fun r20 =>
    let b21:=r20.1
    let n22:=r20.2.1
    let l23:=r20.2.2.1
    let i24:=r20.2.2.2.1
    let i25:=r20.2.2.2.2
    bd (f130 n n22 l23 i24 i25 (2:Int)) fun r26 =>
    let b27:=r26.1
    let n28:=r26.2.1
    let l29:=r26.2.2.1
    let i30:=r26.2.2.2.1
    let i31:=r26.2.2.2.2
    br b27 (
     bd (f71 n n28 l29 i30 i31) fun r32 =>
     let n33:=r32.1
     let l34:=r32.2.1
     let n35:=r32.2.2.1
     let l36:=r32.2.2.2.1
     let i37:=r32.2.2.2.2.1
     let i38:=r32.2.2.2.2.2
     bd (f74 n n35 l36 i37 i38 (120:Int)) fun r39 =>
     let i40:=r39.1
     let n41:=r39.2.1
     let l42:=r39.2.2.1
     let i43:=r39.2.2.2.1
     let i44:=r39.2.2.2.2
     let i45:=(IntKind.i64.wrap (i40 - (90:Int)))
     bd (f74 n n41 l42 i43 i44 (17:Int)) fun r46 =>
     let i47:=r46.1
     let n48:=r46.2.1
     let l49:=r46.2.2.1
     let i50:=r46.2.2.2.1
     let i51:=r46.2.2.2.2
     let x52:=(fdiv .f32 (FloatKind.nearest .f32 i47) 1098907648)
     gd (Nat.ble (n11+1) 2147483648) (
     let n53:=(n11+1)
     let l54:=(l12++(setN (reps 1 [(T.lst 0 []),(T.int .i64 (0:Int)),(T.flt .f32 0),(T.bool false),(T.bool false)]) 0 [(T.lst n33 l34),(T.int .i64 i45),(T.flt .f32 x52),(T.bool b15),(T.bool b21)]))
     f98.l0 n m n48 l49 i50 i51 n5 l6 n7 l8 n9 l10 n53 l54 (IntKind.i64.wrap (i13 - (1:Int))))) (
     bd (f74 n n28 l29 i30 i31 (120:Int)) fun r55 =>
     let i56:=r55.1
     let n57:=r55.2.1
     let l58:=r55.2.2.1
     let i59:=r55.2.2.2.1
     let i60:=r55.2.2.2.2
     let i61:=(IntKind.i64.wrap (i56 - (90:Int)))
     bd (f74 n n57 l58 i59 i60 (17:Int)) fun r62 =>
     let i63:=r62.1
     let n64:=r62.2.1
     let l65:=r62.2.2.1
     let i66:=r62.2.2.2.1
     let i67:=r62.2.2.2.2
     let x68:=(fdiv .f32 (FloatKind.nearest .f32 i63) 1098907648)
     gd (Nat.ble (n11+1) 2147483648) (
     let n69:=(n11+1)
     let l70:=(l12++(setN (reps 1 [(T.lst 0 []),(T.int .i64 (0:Int)),(T.flt .f32 0),(T.bool false),(T.bool false)]) 0 [(T.lst 0 (reps 0 [(T.int .i64 (0:Int)),(T.int .i64 (0:Int)),(T.lst 0 [])])),(T.int .i64 i61),(T.flt .f32 x68),(T.bool b15),(T.bool b21)]))
     f98.l0 n m n64 l65 i66 i67 n5 l6 n7 l8 n9 l10 n69 l70 (IntKind.i64.wrap (i13 - (1:Int)))))) (
    some (n1,l2,i3,i4,n5,l6,n7,l8,n9,l10,n11,l12))
termination_by structural x=>x
def f73.l0 (n:Nat):Nat→Nat→List T→Int→Int→Int→Nat→List T→Bool→Option (Nat × List T × Int × Int × Nat × List T)
 | 0,_,_,_,_,_,_,_,_=>none
 | m+1,n1,l2,i3,i4,i5,n6,l7,b8 =>
   br (decide (i5>(0:Int))) (
    br b8 (
     bd (f86 n n1 l2 i3 i4) fun r9 =>
     let x10:=r9.1
     let n11:=r9.2.1
     let l12:=r9.2.2.1
     let i13:=r9.2.2.2.1
     let i14:=r9.2.2.2.2
     gd (Nat.ble (n6+1) 2147483648) (
     let n15:=(n6+1)
     let l16:=(l7++(setN (reps 1 [(T.flt .f32 0)]) 0 [(T.flt .f32 x10)]))
     f73.l0 n m n11 l12 i13 i14 (IntKind.i64.wrap (i5 - (1:Int))) n15 l16 b8)) (
     bd (f65 n n1 l2 i3 i4) fun r17 =>
     let x18:=r17.1
     let n19:=r17.2.1
     let l20:=r17.2.2.1
     let i21:=r17.2.2.2.1
     let i22:=r17.2.2.2.2
     gd (Nat.ble (n6+1) 2147483648) (
     let n23:=(n6+1)
     let l24:=(l7++(setN (reps 1 [(T.flt .f32 0)]) 0 [(T.flt .f32 x18)]))
     f73.l0 n m n19 l20 i21 i22 (IntKind.i64.wrap (i5 - (1:Int))) n23 l24 b8))) (
    some (n1,l2,i3,i4,n6,l7))
def f73:Nat→Nat→List T→Int→Int→Int→Option (Nat × List T × Nat × List T × Int × Int)
 | 0,_,_,_,_,_=>none
 | n+1,n1,l2,i3,i4,i5 =>
   bd (f130 n n1 l2 i3 i4 (4:Int)) fun r6 =>
   let b7:=r6.1
   let n8:=r6.2.1
   let l9:=r6.2.2.1
   let i10:=r6.2.2.2.1
   let i11:=r6.2.2.2.2
   bd (f73.l0 n n n8 l9 i10 i11 i5 0 (reps 0 [(T.flt .f32 0)]) b7) fun r12 =>
   let n13:=r12.1
   let l14:=r12.2.1
   let i15:=r12.2.2.1
   let i16:=r12.2.2.2.1
   let n17:=r12.2.2.2.2.1
   let l18:=r12.2.2.2.2.2
   some (n17,l18,n13,l14,i15,i16)
def sg_liiilb:Sig (Nat × List T × Int × Int × Int × Nat × List T × Bool) where
 pk:=fun v=>[.lst v.1 v.2.1,.int v.2.2.1,.int v.2.2.2.1,.int v.2.2.2.2.1,.lst v.2.2.2.2.2.1 v.2.2.2.2.2.2.1,.bool v.2.2.2.2.2.2.2]
 up:=fun ls=>match ls with
  | [.lst a0 a1,.int a2,.int a3,.int a4,.lst a5 a6,.bool a7]=>some (a0,a1,a2,a3,a4,a5,a6,a7)
  | _=>none
 ok:=by intro _ _ h;split at h <;>cases h;rfl
def f73.l0.P:AS:=⟨[(0,.box [.sl .shr [.leaf],.leaf,.leaf] [.lst 0 [],.int .i64 0,.int .u64 0] [] 0),(1,qS23),(5,qS21),(6,qS24)],0⟩
def f73.l0.A:Alt (Nat × List T × Int × Int × Nat × List T):=.one (.exit 0) ⟨[(0,.box [.sl .shr [.leaf],.leaf,.leaf] [.lst 0 [],.int .i64 0,.int .u64 0] [] 0),(5,qS21)],0⟩ sg_liil
def f73.l0.F (n m:Nat) (v:Nat × List T × Int × Int × Int × Nat × List T × Bool):=f73.l0 n m v.1 v.2.1 v.2.2.1 v.2.2.2.1 v.2.2.2.2.1 v.2.2.2.2.2.1 v.2.2.2.2.2.2.1 v.2.2.2.2.2.2.2
def f73.l0.W (n:Nat):LpW:=.of 48 f73.l0.P sg_liiilb f73.l0.A (f73.l0.F n n)
def f73.P:List Arg:=[qA13,qA14]
def f73.A:RAlt (Nat × List T × Nat × List T × Int × Int):=.one ⟨[qV7],[some qV2,none]⟩ sg_llii
def f73.F (n:Nat) (v:Nat × List T × Int × Int × Int):=f73 n v.1 v.2.1 v.2.2.1 v.2.2.2.1 v.2.2.2.2
def f73.O (n:Nat):Orc:=orcOf (E:=E) [f130.w,f65.w,f86.w] [f73.l0.W n] n
theorem f73.l0.ok:∀ n,LpS 73 c73 0 n (f73.O n):=lpS f73.l0.P sg_liiilb f73.l0.A f73.l0.F
theorem f73.ok:FnS 73 f73.P sg_liii f73.A f73.F:=fnS c73 f73.O [loopAt c73 0] (fun n=>(.cons (f73.l0.ok n) .nil))
def f73.w:FnW E:=fnW 73 f73.P sg_liii f73.A f73.F f73.ok
def f98.l1 (n:Nat):Nat→Nat→List T→Int→Int→Nat→List T→Nat→List T→Nat→List T→Nat→List T→Int→Option (Nat × List T × Int × Int × Nat × List T × Nat × List T × Nat × List T × Nat × List T)
 | 0,_,_,_,_,_,_,_,_,_,_,_,_,_=>none
 | m+1,n1,l2,i3,i4,n5,l6,n7,l8,n9,l10,n11,l12,i13 =>
   br (decide (i13>(0:Int))) (
    bd (f74 n n1 l2 i3 i4 (n11:Int)) fun r14 =>
    let i15:=r14.1
    let n16:=r14.2.1
    let l17:=r14.2.2.1
    let i18:=r14.2.2.2.1
    let i19:=r14.2.2.2.2
    bd (f74 n n16 l17 i18 i19 (12:Int)) fun r20 =>
    let i21:=r20.1
    let n22:=r20.2.1
    let l23:=r20.2.2.1
    let i24:=r20.2.2.2.1
    let i25:=r20.2.2.2.2
    bd (f74 n n22 l23 i24 i25 (9:Int)) fun r26 =>
    let i27:=r26.1
    let n28:=r26.2.1
    let l29:=r26.2.2.1
    let i30:=r26.2.2.2.1
    let i31:=r26.2.2.2.2
    bd (f73 n n28 l29 i30 i31 i27) fun r32 =>
    let n33:=r32.1
    let l34:=r32.2.1
    let n35:=r32.2.2.1
    let l36:=r32.2.2.2.1
    let i37:=r32.2.2.2.2.1
    let i38:=r32.2.2.2.2.2
    gd (Nat.ble (n9+1) 2147483648) (
    let n39:=(n9+1)
    let l40:=(l10++(setN (reps 1 [(T.int .i64 (0:Int)),(T.int .i64 (0:Int)),(T.lst 0 [])]) 0 [(T.int .i64 i15),(T.int .i64 i21),(T.lst n33 l34)]))
    f98.l1 n m n35 l36 i37 i38 n5 l6 n7 l8 n39 l40 n11 l12 (IntKind.i64.wrap (i13 - (1:Int))))) (
    some (n1,l2,i3,i4,n5,l6,n7,l8,n9,l10,n11,l12))
termination_by structural x=>x
def f98:Nat→Nat→List T→Int→Int→Option (Nat × List T × Nat × List T × Nat × List T × Int × Int)
 | 0,_,_,_,_=>none
 | n+1,n1,l2,i3,i4 =>
   bd (f74 n n1 l2 i3 i4 (3:Int)) fun r5 =>
   let i6:=r5.1
   let n7:=r5.2.1
   let l8:=r5.2.2.1
   let i9:=r5.2.2.2.1
   let i10:=r5.2.2.2.2
   bd (f98.l0 n n n7 l8 i9 i10 0 [] 0 [] 0 (reps 0 [(T.int .i64 (0:Int)),(T.int .i64 (0:Int)),(T.lst 0 [])]) 0 (reps 0 [(T.lst 0 []),(T.int .i64 (0:Int)),(T.flt .f32 0),(T.bool false),(T.bool false)]) (IntKind.i64.wrap ((1:Int)+i6))) fun r11 =>
   let n12:=r11.1
   let l13:=r11.2.1
   let i14:=r11.2.2.1
   let i15:=r11.2.2.2.1
   let n16:=r11.2.2.2.2.1
   let l17:=r11.2.2.2.2.2.1
   let n18:=r11.2.2.2.2.2.2.1
   let l19:=r11.2.2.2.2.2.2.2.1
   let n20:=r11.2.2.2.2.2.2.2.2.1
   let l21:=r11.2.2.2.2.2.2.2.2.2.1
   let n22:=r11.2.2.2.2.2.2.2.2.2.2.1
   let l23:=r11.2.2.2.2.2.2.2.2.2.2.2
   bd (f74 n n12 l13 i14 i15 (5:Int)) fun r24 =>
   let i25:=r24.1
   let n26:=r24.2.1
   let l27:=r24.2.2.1
   let i28:=r24.2.2.2.1
   let i29:=r24.2.2.2.2
   bd (f98.l1 n n n26 l27 i28 i29 n16 l17 n18 l19 n20 l21 n22 l23 i25) fun r30 =>
   let n31:=r30.1
   let l32:=r30.2.1
   let i33:=r30.2.2.1
   let i34:=r30.2.2.2.1
   let n39:=r30.2.2.2.2.2.2.2.2.1
   let l40:=r30.2.2.2.2.2.2.2.2.2.1
   let n41:=r30.2.2.2.2.2.2.2.2.2.2.1
   let l42:=r30.2.2.2.2.2.2.2.2.2.2.2
   some (n39,l40,n41,l42,n31,l32,i33,i34)
def sg_lllii:Sig (Nat × List T × Nat × List T × Nat × List T × Int × Int) where
 pk:=fun v=>[.lst v.1 v.2.1,.lst v.2.2.1 v.2.2.2.1,.lst v.2.2.2.2.1 v.2.2.2.2.2.1,.int v.2.2.2.2.2.2.1,.int v.2.2.2.2.2.2.2]
 up:=fun ls=>match ls with
  | [.lst a0 a1,.lst a2 a3,.lst a4 a5,.int a6,.int a7]=>some (a0,a1,a2,a3,a4,a5,a6,a7)
  | _=>none
 ok:=by intro _ _ h;split at h <;>cases h;rfl
def sg_liilllli:Sig (Nat × List T × Int × Int × Nat × List T × Nat × List T × Nat × List T × Nat × List T × Int) where
 pk:=fun v=>[.lst v.1 v.2.1,.int v.2.2.1,.int v.2.2.2.1,.lst v.2.2.2.2.1 v.2.2.2.2.2.1,.lst v.2.2.2.2.2.2.1 v.2.2.2.2.2.2.2.1,.lst v.2.2.2.2.2.2.2.2.1 v.2.2.2.2.2.2.2.2.2.1,.lst v.2.2.2.2.2.2.2.2.2.2.1 v.2.2.2.2.2.2.2.2.2.2.2.1,.int v.2.2.2.2.2.2.2.2.2.2.2.2]
 up:=fun ls=>match ls with
  | [.lst a0 a1,.int a2,.int a3,.lst a4 a5,.lst a6 a7,.lst a8 a9,.lst a10 a11,.int a12]=>some (a0,a1,a2,a3,a4,a5,a6,a7,a8,a9,a10,a11,a12)
  | _=>none
 ok:=by intro _ _ h;split at h <;>cases h;rfl
def sg_liillll:Sig (Nat × List T × Int × Int × Nat × List T × Nat × List T × Nat × List T × Nat × List T) where
 pk:=fun v=>[.lst v.1 v.2.1,.int v.2.2.1,.int v.2.2.2.1,.lst v.2.2.2.2.1 v.2.2.2.2.2.1,.lst v.2.2.2.2.2.2.1 v.2.2.2.2.2.2.2.1,.lst v.2.2.2.2.2.2.2.2.1 v.2.2.2.2.2.2.2.2.2.1,.lst v.2.2.2.2.2.2.2.2.2.2.1 v.2.2.2.2.2.2.2.2.2.2.2]
 up:=fun ls=>match ls with
  | [.lst a0 a1,.int a2,.int a3,.lst a4 a5,.lst a6 a7,.lst a8 a9,.lst a10 a11]=>some (a0,a1,a2,a3,a4,a5,a6,a7,a8,a9,a10,a11)
  | _=>none
 ok:=by intro _ _ h;split at h <;>cases h;rfl
def f98.l0.P:AS:=⟨[(0,.box [.sl .shr [.leaf],.leaf,.leaf] [.lst 0 [],.int .i64 0,.int .u64 0] [] 0),(2,.box [.sl .own [.leaf,.leaf,.sl .own [.leaf]],.sl .own [.sl .own [.leaf,.leaf,.sl .own [.leaf]],.leaf,.leaf,.leaf,.leaf]] [.lst 0 [],.lst 0 []] [] 0),(3,.box [.sl .own [.leaf,.leaf,.sl .own [.leaf]],.sl .own [.sl .own [.leaf,.leaf,.sl .own [.leaf]],.leaf,.leaf,.leaf,.leaf]] [.lst 0 [],.lst 0 []] [] 0),(4,qS23)],0⟩
def f98.l0.A:Alt (Nat × List T × Int × Int × Nat × List T × Nat × List T × Nat × List T × Nat × List T):=.one (.exit 0) ⟨[(0,.box [.sl .shr [.leaf],.leaf,.leaf] [.lst 0 [],.int .i64 0,.int .u64 0] [] 0),(2,.box [.sl .own [.leaf,.leaf,.sl .own [.leaf]],.sl .own [.sl .own [.leaf,.leaf,.sl .own [.leaf]],.leaf,.leaf,.leaf,.leaf]] [.lst 0 [],.lst 0 []] [] 0),(3,.box [.sl .own [.leaf,.leaf,.sl .own [.leaf]],.sl .own [.sl .own [.leaf,.leaf,.sl .own [.leaf]],.leaf,.leaf,.leaf,.leaf]] [.lst 0 [],.lst 0 []] [] 0)],0⟩ sg_liillll
def f98.l0.F (n m:Nat) (v:Nat × List T × Int × Int × Nat × List T × Nat × List T × Nat × List T × Nat × List T × Int):=f98.l0 n m v.1 v.2.1 v.2.2.1 v.2.2.2.1 v.2.2.2.2.1 v.2.2.2.2.2.1 v.2.2.2.2.2.2.1 v.2.2.2.2.2.2.2.1 v.2.2.2.2.2.2.2.2.1 v.2.2.2.2.2.2.2.2.2.1 v.2.2.2.2.2.2.2.2.2.2.1 v.2.2.2.2.2.2.2.2.2.2.2.1 v.2.2.2.2.2.2.2.2.2.2.2.2
def f98.l0.W (n:Nat):LpW:=.of 48 f98.l0.P sg_liilllli f98.l0.A (f98.l0.F n n)
def f98.l1.P:AS:=⟨[(0,.box [.sl .shr [.leaf],.leaf,.leaf] [.lst 0 [],.int .i64 0,.int .u64 0] [] 0),(2,.box [.sl .own [.leaf,.leaf,.sl .own [.leaf]],.sl .own [.sl .own [.leaf,.leaf,.sl .own [.leaf]],.leaf,.leaf,.leaf,.leaf]] [.lst 0 [],.lst 0 []] [] 0),(3,.box [.sl .own [.leaf,.leaf,.sl .own [.leaf]],.sl .own [.sl .own [.leaf,.leaf,.sl .own [.leaf]],.leaf,.leaf,.leaf,.leaf]] [.lst 0 [],.lst 0 []] [] 0),(6,qS23)],0⟩
def f98.l1.A:Alt (Nat × List T × Int × Int × Nat × List T × Nat × List T × Nat × List T × Nat × List T):=.one (.exit 2) ⟨[(0,.box [.sl .shr [.leaf],.leaf,.leaf] [.lst 0 [],.int .i64 0,.int .u64 0] [] 0),(2,.box [.sl .own [.leaf,.leaf,.sl .own [.leaf]],.sl .own [.sl .own [.leaf,.leaf,.sl .own [.leaf]],.leaf,.leaf,.leaf,.leaf]] [.lst 0 [],.lst 0 []] [] 0),(3,.box [.sl .own [.leaf,.leaf,.sl .own [.leaf]],.sl .own [.sl .own [.leaf,.leaf,.sl .own [.leaf]],.leaf,.leaf,.leaf,.leaf]] [.lst 0 [],.lst 0 []] [] 0)],0⟩ sg_liillll
def f98.l1.F (n m:Nat) (v:Nat × List T × Int × Int × Nat × List T × Nat × List T × Nat × List T × Nat × List T × Int):=f98.l1 n m v.1 v.2.1 v.2.2.1 v.2.2.2.1 v.2.2.2.2.1 v.2.2.2.2.2.1 v.2.2.2.2.2.2.1 v.2.2.2.2.2.2.2.1 v.2.2.2.2.2.2.2.2.1 v.2.2.2.2.2.2.2.2.2.1 v.2.2.2.2.2.2.2.2.2.2.1 v.2.2.2.2.2.2.2.2.2.2.2.1 v.2.2.2.2.2.2.2.2.2.2.2.2
def f98.l1.W (n:Nat):LpW:=.of 192 f98.l1.P sg_liilllli f98.l1.A (f98.l1.F n n)
def f98.P:List Arg:=[qA13]
def f98.A:RAlt (Nat × List T × Nat × List T × Nat × List T × Int × Int):=.one ⟨[qV0],[some qV2]⟩ sg_lllii
def f98.F (n:Nat) (v:Nat × List T × Int × Int):=f98 n v.1 v.2.1 v.2.2.1 v.2.2.2
def f98.O (n:Nat):Orc:=orcOf (E:=E) [f74.w,f130.w,f71.w,f73.w] [f98.l0.W n,f98.l1.W n] n
theorem f98.l0.ok:∀ n,LpS 98 c98 0 n (f98.O n):=lpS f98.l0.P sg_liilllli f98.l0.A f98.l0.F
theorem f98.l1.ok:∀ n,LpS 98 c98 1 n (f98.O n):=lpS f98.l1.P sg_liilllli f98.l1.A f98.l1.F
theorem f98.ok:FnS 98 f98.P sg_lii f98.A f98.F:=fnS c98 f98.O [loopAt c98 0,loopAt c98 1] (fun n=>(.cons (f98.l0.ok n) (.cons (f98.l1.ok n) .nil)))
def f98.w:FnW E:=fnW 98 f98.P sg_lii f98.A f98.F f98.ok
def f50:Nat→Nat→List T→Option (Nat × List T × Nat × List T)
 | 0,_,_=>none
 | n+1,n1,l2 =>
   bd (f64 n n1 l2) fun r3 =>
   let n4:=r3.1
   let l5:=r3.2.1
   let i6:=r3.2.2.1
   let i7:=r3.2.2.2
   bd (f98 n n4 l5 i6 i7) fun r8 =>
   let n9:=r8.1
   let l10:=r8.2.1
   let n11:=r8.2.2.1
   let l12:=r8.2.2.2.1
   some (n9,l10,n11,l12)
def f50.P:List Arg:=[qA12]
def f50.A:RAlt (Nat × List T × Nat × List T):=.one ⟨[qV0],[none]⟩ sg_ll
def f50.F (n:Nat) (v:Nat × List T):=f50 n v.1 v.2
def f50.O (n:Nat):Orc:=orcOf (E:=E) [f64.w,f98.w] [] n
theorem f50.ok:FnS 50 f50.P sg_l f50.A f50.F:=fnS c50 f50.O
def f50.w:FnW E:=fnW 50 f50.P sg_l f50.A f50.F f50.ok
def f33:Nat→Nat→List T→Int→Int→Option (Int)
 | 0,_,_,_,_=>none
 | n+1,n1,l2,i3,i4 =>
   br (decide (i4≤(1:Int))) (
    some (0:Int)) (
    br (decide (i3<(n1:Int))) (
     gd ((decide ((0≤i3)∧(i3<(n1:Int))))&&(okAt [(CK.int .u8)] l2 (Int.toNat i3))) (
     gd (!(decide (i4=(0:Int)))) (
     some (Int.tmod (IntKind.i64.wrap (iAt l2 (Int.toNat i3))) i4)))) (
     gd (!(decide (i4=(0:Int)))) (
     some (Int.tmod (IntKind.i64.wrap ((IntKind.i64.wrap (i3 * (37:Int)))+(11:Int))) i4))))
def f33.P:List Arg:=[qA12,qA14,qA14]
def f33.A:RAlt (Int):=.one ⟨[qV9],[none,none,none]⟩ sg_i
def f33.F (n:Nat) (v:Nat × List T × Int × Int):=f33 n v.1 v.2.1 v.2.2.1 v.2.2.2
def f33.O (n:Nat):Orc:=orcOf (E:=E) [] [] n
theorem f33.ok:FnS 33 f33.P sg_lii f33.A f33.F:=fnS c33 f33.O
def f33.w:FnW E:=fnW 33 f33.P sg_lii f33.A f33.F f33.ok
def f87:Nat→Int→Option (Int)
 | 0,_=>none
 | n+1,i1 =>
   some i1
def f87.P:List Arg:=[qA14]
def f87.A:RAlt (Int):=.one ⟨[qV9],[none]⟩ sg_i
def f87.F (n:Nat) (v:Int):=f87 n v
def f87.O (n:Nat):Orc:=orcOf (E:=E) [] [] n
theorem f87.ok:FnS 87 f87.P sg_i f87.A f87.F:=fnS c87 f87.O
def f87.w:FnW E:=fnW 87 f87.P sg_i f87.A f87.F f87.ok
def f67:Nat→Int→Int→Int→Option (Bool)
 | 0,_,_,_=>none
 | n+1,i1,i2,i3 =>
   br (decide (i2≤i1)) (
    some (decide (i1≤i3))) (
    some false)
def sg_iii:Sig (Int × Int × Int) where
 pk:=fun v=>[.int v.1,.int v.2.1,.int v.2.2]
 up:=fun ls=>match ls with
  | [.int a0,.int a1,.int a2]=>some (a0,a1,a2)
  | _=>none
 ok:=by intro _ _ h;split at h <;>cases h;rfl
def f67.P:List Arg:=[qA14,qA14,qA14]
def f67.A:RAlt (Bool):=.one ⟨[qV8],[none,none,none]⟩ sg_b
def f67.F (n:Nat) (v:Int × Int × Int):=f67 n v.1 v.2.1 v.2.2
def f67.O (n:Nat):Orc:=orcOf (E:=E) [] [] n
theorem f67.ok:FnS 67 f67.P sg_iii f67.A f67.F:=fnS c67 f67.O
def f67.w:FnW E:=fnW 67 f67.P sg_iii f67.A f67.F f67.ok
def f89:Nat→Int→Option (Bool)
 | 0,_=>none
 | n+1,i1 =>
   bd (f67 n i1 (1:Int) (8:Int)) fun r2 =>
   let b3:=r2
   some b3
def f89.P:List Arg:=[qA14]
def f89.A:RAlt (Bool):=.one ⟨[qV8],[none]⟩ sg_b
def f89.F (n:Nat) (v:Int):=f89 n v
def f89.O (n:Nat):Orc:=orcOf (E:=E) [f67.w] [] n
theorem f89.ok:FnS 89 f89.P sg_i f89.A f89.F:=fnS c89 f89.O
def f89.w:FnW E:=fnW 89 f89.P sg_i f89.A f89.F f89.ok
def f136:Nat→Int→Int→Nat→List T→Int→Int→Int→Option (Bool)
 | 0,_,_,_,_,_,_,_=>none
 | n+1,i1,i2,n3,l4,i5,i6,i7 =>
   bd (f67 n i2 i5 i6) fun r8 =>
   let b9:=r8
   br b9 (
    some ((n3:Int)==i7)) (
    some false)
def sg_iiliii:Sig (Int × Int × Nat × List T × Int × Int × Int) where
 pk:=fun v=>[.int v.1,.int v.2.1,.lst v.2.2.1 v.2.2.2.1,.int v.2.2.2.2.1,.int v.2.2.2.2.2.1,.int v.2.2.2.2.2.2]
 up:=fun ls=>match ls with
  | [.int a0,.int a1,.lst a2 a3,.int a4,.int a5,.int a6]=>some (a0,a1,a2,a3,a4,a5,a6)
  | _=>none
 ok:=by intro _ _ h;split at h <;>cases h;rfl
def f136.P:List Arg:=[qA15,qA14,qA14,qA14]
def f136.A:RAlt (Bool):=.one ⟨[qV8],[none,none,none,none]⟩ sg_b
def f136.F (n:Nat) (v:Int × Int × Nat × List T × Int × Int × Int):=f136 n v.1 v.2.1 v.2.2.1 v.2.2.2.1 v.2.2.2.2.1 v.2.2.2.2.2.1 v.2.2.2.2.2.2
def f136.O (n:Nat):Orc:=orcOf (E:=E) [f67.w] [] n
theorem f136.ok:FnS 136 f136.P sg_iiliii f136.A f136.F:=fnS c136 f136.O
def f136.w:FnW E:=fnW 136 f136.P sg_iiliii f136.A f136.F f136.ok
def f174:Nat→Nat→Option (Bool)
 | 0,_=>none
 | n+1,x1 =>
   some (feq .f32 (fsub .f32 x1 x1) 0)
def f174.P:List Arg:=[qA11]
def f174.A:RAlt (Bool):=.one ⟨[qV8],[none]⟩ sg_b
def f174.F (n:Nat) (v:Nat):=f174 n v
def f174.O (n:Nat):Orc:=orcOf (E:=E) [] [] n
theorem f174.ok:FnS 174 f174.P sg_f f174.A f174.F:=fnS c174 f174.O
def f174.w:FnW E:=fnW 174 f174.P sg_f f174.A f174.F f174.ok
def f137:Nat→Nat→Option (Bool)
 | 0,_=>none
 | n+1,x1 =>
   bd (f174 n x1) fun r2 =>
   let b3:=r2
   br b3 (
    some (fgt .f32 x1 0)) (
    some false)
def f137.P:List Arg:=[qA11]
def f137.A:RAlt (Bool):=.one ⟨[qV8],[none]⟩ sg_b
def f137.F (n:Nat) (v:Nat):=f137 n v
def f137.O (n:Nat):Orc:=orcOf (E:=E) [f174.w] [] n
theorem f137.ok:FnS 137 f137.P sg_f f137.A f137.F:=fnS c137 f137.O
def f137.w:FnW E:=fnW 137 f137.P sg_f f137.A f137.F f137.ok
def f76:Nat→Int→Int→Nat→List T→Option (Bool)
 | 0,_,_,_,_=>none
 | n+1,i1,i2,n3,l4 =>
   br (i1==(0:Int)) (
    br (i1==(0:Int)) (
     bd (f136 n i1 i2 n3 l4 (0:Int) (0:Int) (1:Int)) fun r5 =>
     let b6:=r5
     some b6) (
     br (i1==(1:Int)) (
      bd (f136 n i1 i2 n3 l4 (0:Int) (0:Int) (5:Int)) fun r7 =>
      let b8:=r7
      some b8) (
      br (i1==(2:Int)) (
       bd (f136 n i1 i2 n3 l4 (1:Int) (32:Int) (2:Int)) fun r9 =>
       let b10:=r9
       some b10) (
       br (i1==(3:Int)) (
        bd (f136 n i1 i2 n3 l4 (0:Int) (0:Int) (4:Int)) fun r11 =>
        let b12:=r11
        some b12) (
        br (i1==(5:Int)) (
         bd (f136 n i1 i2 n3 l4 (0:Int) (0:Int) (0:Int)) fun r13 =>
         let b14:=r13
         some b14) (
         br (i1==(6:Int)) (
          bd (f136 n i1 i2 n3 l4 (0:Int) (32:Int) (2:Int)) fun r15 =>
          let b16:=r15
          br b16 (
           gd ((decide ((0≤(0:Int))∧((0:Int)<(n3:Int))))&&(okAt [(CK.flt .f32)] l4 0)) (
           bd (f137 n (fAt l4 0)) fun r17 =>
           let b18:=r17
           some b18)) (
           some false)) (
          some false))))))) (
    br (i1==(4:Int)) (
     bd (f136 n i1 i2 n3 l4 (0:Int) (0:Int) (1:Int)) fun r19 =>
     let b20:=r19
     some b20) (
     br (i1==(1:Int)) (
      bd (f136 n i1 i2 n3 l4 (0:Int) (0:Int) (5:Int)) fun r21 =>
      let b22:=r21
      some b22) (
      br (i1==(2:Int)) (
       bd (f136 n i1 i2 n3 l4 (1:Int) (32:Int) (2:Int)) fun r23 =>
       let b24:=r23
       some b24) (
       br (i1==(3:Int)) (
        bd (f136 n i1 i2 n3 l4 (0:Int) (0:Int) (4:Int)) fun r25 =>
        let b26:=r25
        some b26) (
        br (i1==(5:Int)) (
         bd (f136 n i1 i2 n3 l4 (0:Int) (0:Int) (0:Int)) fun r27 =>
         let b28:=r27
         some b28) (
         br (i1==(6:Int)) (
          bd (f136 n i1 i2 n3 l4 (0:Int) (32:Int) (2:Int)) fun r29 =>
          let b30:=r29
          br b30 (
           gd ((decide ((0≤(0:Int))∧((0:Int)<(n3:Int))))&&(okAt [(CK.flt .f32)] l4 0)) (
           bd (f137 n (fAt l4 0)) fun r31 =>
           let b32:=r31
           some b32)) (
           some false)) (
          some false)))))))
def sg_iil:Sig (Int × Int × Nat × List T) where
 pk:=fun v=>[.int v.1,.int v.2.1,.lst v.2.2.1 v.2.2.2]
 up:=fun ls=>match ls with
  | [.int a0,.int a1,.lst a2 a3]=>some (a0,a1,a2,a3)
  | _=>none
 ok:=by intro _ _ h;split at h <;>cases h;rfl
def f76.P:List Arg:=[qA15]
def f76.A:RAlt (Bool):=.one ⟨[qV8],[none]⟩ sg_b
def f76.F (n:Nat) (v:Int × Int × Nat × List T):=f76 n v.1 v.2.1 v.2.2.1 v.2.2.2
def f76.O (n:Nat):Orc:=orcOf (E:=E) [f136.w,f137.w] [] n
theorem f76.ok:FnS 76 f76.P sg_iil f76.A f76.F:=fnS c76 f76.O
def f76.w:FnW E:=fnW 76 f76.P sg_iil f76.A f76.F f76.ok
def f23.l0 (n:Nat):Nat→Nat→List T→Nat→List T→Int→Int→Option ((Bool) ⊕ (Unit))
 | 0,_,_,_,_,_,_=>none
 | m+1,n1,l2,n3,l4,i5,i6 =>
   br (decide (i6<i5)) (
    gd ((decide ((0≤i6)∧(i6<(n3:Int))))&&(okAt [(CK.int .i64),(CK.int .i64),CK.lst] l4 (((Int.toNat i6) * 3)+0))) (
    let i7:=(iAt l4 (((Int.toNat i6) * 3)+0))
    let i8:=(iAt l4 ((((Int.toNat i6) * 3)+0)+1))
    let n9:=(nAt l4 (((((Int.toNat i6) * 3)+0)+1)+1))
    let l10:=(lAt l4 (((((Int.toNat i6) * 3)+0)+1)+1))
    bd (f76 n i7 i8 n9 l10) fun r11 =>
    let b12:=r11
    br (!b12) (
     some (Sum.inl false)) (
     f23.l0 n m n1 l2 n3 l4 i5 (IntKind.i64.wrap (i6+(1:Int)))))) (
    some (Sum.inr ()))
def f23:Nat→Nat→List T→Option (Bool)
 | 0,_,_=>none
 | n+1,n1,l2 =>
   br (decide ((n1:Int)>(8:Int))) (
    some false) (
    bd (f23.l0 n n n1 l2 n1 l2 (n1:Int) (0:Int)) fun r3 =>
    sm r3 (fun u4 =>
     let b5:=u4
     some b5) (fun u6 =>
     some true))
def sg:Sig (Unit) where
 pk:=fun v=>[]
 up:=fun ls=>match ls with
  | []=>some ()
  | _=>none
 ok:=by intro _ _ h;split at h <;>cases h;rfl
def f23.l0.P:AS:=⟨[(0,qS20),(8,qS20),(9,qS23),(10,qS23)],0⟩
def f23.l0.A:Alt ((Bool) ⊕ (Unit)):=.or (.one .ret ⟨[(2,qS24)],0⟩ sg_b) (.one (.exit 0) ⟨[(2,.dead)],0⟩ sg)
def f23.l0.F (n m:Nat) (v:Nat × List T × Nat × List T × Int × Int):=f23.l0 n m v.1 v.2.1 v.2.2.1 v.2.2.2.1 v.2.2.2.2.1 v.2.2.2.2.2
def f23.l0.W (n:Nat):LpW:=.of 64 f23.l0.P sg_llii f23.l0.A (f23.l0.F n n)
def f23.P:List Arg:=[qA16]
def f23.A:RAlt (Bool):=.one ⟨[qV8],[none]⟩ sg_b
def f23.F (n:Nat) (v:Nat × List T):=f23 n v.1 v.2
def f23.O (n:Nat):Orc:=orcOf (E:=E) [f76.w] [f23.l0.W n] n
theorem f23.l0.ok:∀ n,LpS 23 c23 0 n (f23.O n):=lpS f23.l0.P sg_llii f23.l0.A f23.l0.F
theorem f23.ok:FnS 23 f23.P sg_l f23.A f23.F:=fnS c23 f23.O [loopAt c23 0] (fun n=>(.cons (f23.l0.ok n) .nil))
def f23.w:FnW E:=fnW 23 f23.P sg_l f23.A f23.F f23.ok
def f143:Nat→Int→Option (Bool)
 | 0,_=>none
 | n+1,i1 =>
   bd (f67 n i1 (-2000:Int) (2000:Int)) fun r2 =>
   let b3:=r2
   some b3
def f143.P:List Arg:=[qA14]
def f143.A:RAlt (Bool):=.one ⟨[qV8],[none]⟩ sg_b
def f143.F (n:Nat) (v:Int):=f143 n v
def f143.O (n:Nat):Orc:=orcOf (E:=E) [f67.w] [] n
theorem f143.ok:FnS 143 f143.P sg_i f143.A f143.F:=fnS c143 f143.O
def f143.w:FnW E:=fnW 143 f143.P sg_i f143.A f143.F f143.ok
def f144:Nat→Nat→Option (Bool)
 | 0,_=>none
 | n+1,x1 =>
   br (fge .f32 x1 0) (
    some (fle .f32 x1 1065353216)) (
    some false)
def f144.P:List Arg:=[qA11]
def f144.A:RAlt (Bool):=.one ⟨[qV8],[none]⟩ sg_b
def f144.F (n:Nat) (v:Nat):=f144 n v
def f144.O (n:Nat):Orc:=orcOf (E:=E) [] [] n
theorem f144.ok:FnS 144 f144.P sg_f f144.A f144.F:=fnS c144 f144.O
def f144.w:FnW E:=fnW 144 f144.P sg_f f144.A f144.F f144.ok
def f101.l0 (n:Nat):Nat→Nat→List T→Nat→List T→Nat→List T→Int→Int→Option ((Bool) ⊕ (Nat × List T × Nat × List T))
 | 0,_,_,_,_,_,_,_,_=>none
 | m+1,n1,l2,n3,l4,n5,l6,i7,i8 =>
   br (decide (i8<i7)) (
    gd ((decide ((0≤i8)∧(i8<(n5:Int))))&&(okAt [CK.lst,(CK.int .i64),(CK.flt .f32),CK.bool,CK.bool] l6 (((Int.toNat i8) * 5)+0))) (
    let n9:=(nAt l6 (((Int.toNat i8) * 5)+0))
    let l10:=(lAt l6 (((Int.toNat i8) * 5)+0))
    let i11:=(iAt l6 ((((Int.toNat i8) * 5)+0)+1))
    let x12:=(fAt l6 (((((Int.toNat i8) * 5)+0)+1)+1))
    let b13:=(bAt l6 ((((((Int.toNat i8) * 5)+0)+1)+1)+1))
    let b14:=(bAt l6 (((((((Int.toNat i8) * 5)+0)+1)+1)+1)+1))
    bd (f23 n n9 l10) fun r15 =>
    let b16:=r15
    br (!b16) (
     some (Sum.inl false)) (
     bd (f143 n i11) fun r17 =>
     let b18:=r17
     br (!b18) (
      some (Sum.inl false)) (
      bd (f144 n x12) fun r19 =>
      let b20:=r19
      br (!b20) (
       some (Sum.inl false)) (
       f101.l0 n m n1 l2 n3 l4 n5 l6 i7 (IntKind.i64.wrap (i8+(1:Int)))))))) (
    some (Sum.inr (n1,l2,n3,l4)))
def f83:Nat→Int→Int→Option (Bool)
 | 0,_,_=>none
 | n+1,i1,i2 =>
   bd (f67 n i1 (0:Int) (IntKind.i64.wrap (i2 - (1:Int)))) fun r3 =>
   let b4:=r3
   some b4
def sg_ii:Sig (Int × Int) where
 pk:=fun v=>[.int v.1,.int v.2]
 up:=fun ls=>match ls with
  | [.int a0,.int a1]=>some (a0,a1)
  | _=>none
 ok:=by intro _ _ h;split at h <;>cases h;rfl
def f83.P:List Arg:=[qA14,qA14]
def f83.A:RAlt (Bool):=.one ⟨[qV8],[none,none]⟩ sg_b
def f83.F (n:Nat) (v:Int × Int):=f83 n v.1 v.2
def f83.O (n:Nat):Orc:=orcOf (E:=E) [f67.w] [] n
theorem f83.ok:FnS 83 f83.P sg_ii f83.A f83.F:=fnS c83 f83.O
def f83.w:FnW E:=fnW 83 f83.P sg_ii f83.A f83.F f83.ok
def f81:Nat→Int→Option (Bool)
 | 0,_=>none
 | n+1,i1 =>
   bd (f67 n i1 (0:Int) (256:Int)) fun r2 =>
   let b3:=r2
   some b3
def f81.P:List Arg:=[qA14]
def f81.A:RAlt (Bool):=.one ⟨[qV8],[none]⟩ sg_b
def f81.F (n:Nat) (v:Int):=f81 n v
def f81.O (n:Nat):Orc:=orcOf (E:=E) [f67.w] [] n
theorem f81.ok:FnS 81 f81.P sg_i f81.A f81.F:=fnS c81 f81.O
def f81.w:FnW E:=fnW 81 f81.P sg_i f81.A f81.F f81.ok
def f66:Nat→Nat→List T→Option (Bool)
 | 0,_,_=>none
 | n+1,n1,l2 =>
   some (decide ((n1:Int)≤(256:Int)))
def f66.P:List Arg:=[qA12]
def f66.A:RAlt (Bool):=.one ⟨[qV8],[none]⟩ sg_b
def f66.F (n:Nat) (v:Nat × List T):=f66 n v.1 v.2
def f66.O (n:Nat):Orc:=orcOf (E:=E) [] [] n
theorem f66.ok:FnS 66 f66.P sg_l f66.A f66.F:=fnS c66 f66.O
def f66.w:FnW E:=fnW 66 f66.P sg_l f66.A f66.F f66.ok
def f101.l1 (n:Nat):Nat→Nat→List T→Nat→List T→Nat→List T→Int→Int→Option ((Bool) ⊕ (Unit))
 | 0,_,_,_,_,_,_,_,_=>none
 | m+1,n1,l2,n3,l4,n5,l6,i7,i8 =>
   br (decide (i8<i7)) (
    gd ((decide ((0≤i8)∧(i8<(n5:Int))))&&(okAt [(CK.int .i64),(CK.int .i64),CK.lst] l6 (((Int.toNat i8) * 3)+0))) (
    let i9:=(iAt l6 (((Int.toNat i8) * 3)+0))
    let i10:=(iAt l6 ((((Int.toNat i8) * 3)+0)+1))
    let n11:=(nAt l6 (((((Int.toNat i8) * 3)+0)+1)+1))
    let l12:=(lAt l6 (((((Int.toNat i8) * 3)+0)+1)+1))
    bd (f83 n i9 (n3:Int)) fun r13 =>
    let b14:=r13
    br (!b14) (
     some (Sum.inl false)) (
     bd (f81 n i10) fun r15 =>
     let b16:=r15
     br (!b16) (
      some (Sum.inl false)) (
      bd (f66 n n11 l12) fun r17 =>
      let b18:=r17
      br (!b18) (
       some (Sum.inl false)) (
       f101.l1 n m n1 l2 n3 l4 n5 l6 i7 (IntKind.i64.wrap (i8+(1:Int)))))))) (
    some (Sum.inr ()))
def f101:Nat→Nat→List T→Nat→List T→Option (Bool)
 | 0,_,_,_,_=>none
 | n+1,n1,l2,n3,l4 =>
   bd (f87 n (n3:Int)) fun r5 =>
   let i6:=r5
   bd (f89 n i6) fun r7 =>
   let b8:=r7
   br (!b8) (
    some false) (
    br (decide ((n1:Int)>(12:Int))) (
     some false) (
     bd (f101.l0 n n n1 l2 n3 l4 n3 l4 (n3:Int) (0:Int)) fun r9 =>
     sm r9 (fun u10 =>
      let b11:=u10
      some b11) (fun u12 =>
      let n13:=u12.1
      let l14:=u12.2.1
      let n15:=u12.2.2.1
      let l16:=u12.2.2.2
      bd (f101.l1 n n n13 l14 n15 l16 n13 l14 (n13:Int) (0:Int)) fun r17 =>
      sm r17 (fun u18 =>
       let b19:=u18
       some b19) (fun u20 =>
       some true))))
def f101.l0.P:AS:=⟨[(1,.box [.sl .shr [.leaf,.leaf,.sl .shr [.leaf]],.sl .shr [.sl .shr [.leaf,.leaf,.sl .shr [.leaf]],.leaf,.leaf,.leaf,.leaf]] [.lst 0 [],.lst 0 []] [] 0),(20,.val false [.sl .shr [.sl .shr [.leaf,.leaf,.sl .shr [.leaf]],.leaf,.leaf,.leaf,.leaf]] [.lst 0 []] [] 0),(21,qS23),(22,qS23)],0⟩
def f101.l0.A:Alt ((Bool) ⊕ (Nat × List T × Nat × List T)):=.or (.one .ret ⟨[(1,.dead),(2,qS24),(69,.dead)],0⟩ sg_b) (.one (.exit 0) ⟨[(1,.box [.sl .shr [.leaf,.leaf,.sl .shr [.leaf]],.sl .shr [.sl .shr [.leaf,.leaf,.sl .shr [.leaf]],.leaf,.leaf,.leaf,.leaf]] [.lst 0 [],.lst 0 []] [] 0),(2,.dead),(69,.dead)],0⟩ sg_ll)
def f101.l0.F (n m:Nat) (v:Nat × List T × Nat × List T × Nat × List T × Int × Int):=f101.l0 n m v.1 v.2.1 v.2.2.1 v.2.2.2.1 v.2.2.2.2.1 v.2.2.2.2.2.1 v.2.2.2.2.2.2.1 v.2.2.2.2.2.2.2
def f101.l0.W (n:Nat):LpW:=.of 64 f101.l0.P sg_lllii f101.l0.A (f101.l0.F n n)
def f101.l1.P:AS:=⟨[(1,.box [.sl .shr [.leaf,.leaf,.sl .shr [.leaf]],.sl .shr [.sl .shr [.leaf,.leaf,.sl .shr [.leaf]],.leaf,.leaf,.leaf,.leaf]] [.lst 0 [],.lst 0 []] [] 0),(44,qS20),(45,qS23),(46,qS23)],0⟩
def f101.l1.A:Alt ((Bool) ⊕ (Unit)):=.or (.one .ret ⟨[(2,qS24)],0⟩ sg_b) (.one (.exit 2) ⟨[(2,.dead)],0⟩ sg)
def f101.l1.F (n m:Nat) (v:Nat × List T × Nat × List T × Nat × List T × Int × Int):=f101.l1 n m v.1 v.2.1 v.2.2.1 v.2.2.2.1 v.2.2.2.2.1 v.2.2.2.2.2.1 v.2.2.2.2.2.2.1 v.2.2.2.2.2.2.2
def f101.l1.W (n:Nat):LpW:=.of 160 f101.l1.P sg_lllii f101.l1.A (f101.l1.F n n)
def f101.P:List Arg:=[qA17]
def f101.A:RAlt (Bool):=.one ⟨[qV8],[none]⟩ sg_b
def f101.F (n:Nat) (v:Nat × List T × Nat × List T):=f101 n v.1 v.2.1 v.2.2.1 v.2.2.2
def f101.O (n:Nat):Orc:=orcOf (E:=E) [f87.w,f89.w,f23.w,f143.w,f144.w,f83.w,f81.w,f66.w] [f101.l0.W n,f101.l1.W n] n
theorem f101.l0.ok:∀ n,LpS 101 c101 0 n (f101.O n):=lpS f101.l0.P sg_lllii f101.l0.A f101.l0.F
theorem f101.l1.ok:∀ n,LpS 101 c101 1 n (f101.O n):=lpS f101.l1.P sg_lllii f101.l1.A f101.l1.F
theorem f101.ok:FnS 101 f101.P sg_ll f101.A f101.F:=fnS c101 f101.O [loopAt c101 0,loopAt c101 1] (fun n=>(.cons (f101.l0.ok n) (.cons (f101.l1.ok n) .nil)))
def f101.w:FnW E:=fnW 101 f101.P sg_ll f101.A f101.F f101.ok
def f99:Nat→Nat→List T→Nat→List T→Int→Int→Option (Bool)
 | 0,_,_,_,_,_,_=>none
 | n+1,n1,l2,n3,l4,i5,i6 =>
   bd (f101 n n1 l2 n3 l4) fun r7 =>
   let b8:=r7
   br b8 (
    bd (f83 n i5 (n3:Int)) fun r9 =>
    let b10:=r9
    br b10 (
     bd (f81 n i6) fun r11 =>
     let b12:=r11
     some b12) (
     some false)) (
    some false)
def f99.P:List Arg:=[qA17,qA14,qA14]
def f99.A:RAlt (Bool):=.one ⟨[qV8],[none,none,none]⟩ sg_b
def f99.F (n:Nat) (v:Nat × List T × Nat × List T × Int × Int):=f99 n v.1 v.2.1 v.2.2.1 v.2.2.2.1 v.2.2.2.2.1 v.2.2.2.2.2
def f99.O (n:Nat):Orc:=orcOf (E:=E) [f83.w,f81.w,f101.w] [] n
theorem f99.ok:FnS 99 f99.P sg_llii f99.A f99.F:=fnS c99 f99.O
def f99.w:FnW E:=fnW 99 f99.P sg_llii f99.A f99.F f99.ok
def f91:Nat→Int→Option (Nat × List T)
 | 0,_=>none
 | n+1,i1 =>
   gd (decide ((0≤i1)∧(i1≤(2147483648:Int)))) (
   some ((Int.toNat i1),(reps (Int.toNat i1) [(T.flt .f32 0)])))
def f91.P:List Arg:=[qA14]
def f91.A:RAlt (Nat × List T):=.one ⟨[qV7],[none]⟩ sg_l
def f91.F (n:Nat) (v:Int):=f91 n v
def f91.O (n:Nat):Orc:=orcOf (E:=E) [] [] n
theorem f91.ok:FnS 91 f91.P sg_i f91.A f91.F:=fnS c91 f91.O
def f91.w:FnW E:=fnW 91 f91.P sg_i f91.A f91.F f91.ok
def f100.l1 (n:Nat):Nat→Int→Int→Int→Nat→List T→Nat→List T→Nat→List T→Int→Int→Nat→List T→Nat→List T→Int→Int→Nat→List T→Int→Int→Option (Int × Int × Int × Nat × List T × Nat × List T × Nat × List T × Nat × List T × Int × Int)
 | 0,_,_,_,_,_,_,_,_,_,_,_,_,_,_,_,_,_,_,_,_,_=>none
 | m+1,i1,i2,i3,n4,l5,n6,l7,n8,l9,i10,i11,n12,l13,n14,l15,i16,i17,n18,l19,i20,i21 =>
   br (decide (i21<i20)) (
    gd ((decide ((0≤i21)∧(i21<(n18:Int))))&&(okAt [(CK.flt .f32)] l19 (Int.toNat i21))) (
    let x22:=(fAt l19 (Int.toNat i21))
    let i23:=(IntKind.i64.wrap ((IntKind.i64.wrap (i11+i21)) - i2))
    bd (f67 n i23 (0:Int) (IntKind.i64.wrap (i3 - (1:Int)))) fun r24 =>
    let b25:=r24
    br b25 (
     gd (decide ((0≤i23)∧(i23<(n8:Int)))) (
     gd (okAt [(CK.flt .f32)] l9 (Int.toNat i23)) (
     gd (decide ((0≤i23)∧(i23<(n8:Int)))) (
     gd (Nat.ble ((Int.toNat i23)+1) (List.length l9)) (
     let l26:=(setN l9 (Int.toNat i23) [(T.flt .f32 (fadd .f32 (fAt l9 (Int.toNat i23)) x22))])
     f100.l1 n m i1 i2 i3 n4 l5 n6 l7 n8 l26 i10 i11 n12 l13 n14 l15 i16 i17 n18 l19 i20 (IntKind.i64.wrap (i21+(1:Int)))))))) (
     f100.l1 n m i1 i2 i3 n4 l5 n6 l7 n8 l9 i10 i11 n12 l13 n14 l15 i16 i17 n18 l19 i20 (IntKind.i64.wrap (i21+(1:Int)))))) (
    some (i1,i2,i3,n4,l5,n6,l7,n8,l9,n14,l15,i16,i17))
termination_by structural x=>x
def f100.l0 (n:Nat):Nat→Int→Int→Int→Nat→List T→Nat→List T→Nat→List T→Nat→List T→Int→Int→Option (Nat × List T)
 | 0,_,_,_,_,_,_,_,_,_,_,_,_,_=>none
 | m+1,i1,i2,i3,n4,l5,n6,l7,n8,l9,n10,l11,i12,i13 =>
   br (decide (i13<i12)) (
    gd ((decide ((0≤i13)∧(i13<(n10:Int))))&&(okAt [(CK.int .i64),(CK.int .i64),CK.lst] l11 (((Int.toNat i13) * 3)+0))) (
    let i14:=(iAt l11 (((Int.toNat i13) * 3)+0))
    let i15:=(iAt l11 ((((Int.toNat i13) * 3)+0)+1))
    let n16:=(nAt l11 (((((Int.toNat i13) * 3)+0)+1)+1))
    let l17:=(lAt l11 (((((Int.toNat i13) * 3)+0)+1)+1))
    br (i14 != i1) (
     f100.l0 n m i1 i2 i3 n4 l5 n6 l7 n8 l9 n10 l11 i12 (IntKind.i64.wrap (i13+(1:Int)))) (
     bd (f100.l1 n n i1 i2 i3 n4 l5 n6 l7 n8 l9 i14 i15 n16 l17 n10 l11 i12 i13 n16 l17 (n16:Int) (0:Int)) fun r18 =>
     let i19:=r18.1
     let i20:=r18.2.1
     let i21:=r18.2.2.1
     let n22:=r18.2.2.2.1
     let l23:=r18.2.2.2.2.1
     let n24:=r18.2.2.2.2.2.1
     let l25:=r18.2.2.2.2.2.2.1
     let n26:=r18.2.2.2.2.2.2.2.1
     let l27:=r18.2.2.2.2.2.2.2.2.1
     let n28:=r18.2.2.2.2.2.2.2.2.2.1
     let l29:=r18.2.2.2.2.2.2.2.2.2.2.1
     let i30:=r18.2.2.2.2.2.2.2.2.2.2.2.1
     let i31:=r18.2.2.2.2.2.2.2.2.2.2.2.2
     f100.l0 n m i19 i20 i21 n22 l23 n24 l25 n26 l27 n28 l29 i30 (IntKind.i64.wrap (i31+(1:Int)))))) (
    some (n8,l9))
termination_by structural x=>x
def f100:Nat→Nat→List T→Nat→List T→Int→Int→Int→Option (Nat × List T)
 | 0,_,_,_,_,_,_,_=>none
 | n+1,n1,l2,n3,l4,i5,i6,i7 =>
   bd (f91 n i7) fun r8 =>
   let n9:=r8.1
   let l10:=r8.2
   bd (f100.l0 n n i5 i6 i7 n1 l2 n3 l4 n9 l10 n1 l2 (n1:Int) (0:Int)) fun r11 =>
   let n12:=r11.1
   let l13:=r11.2
   some (n12,l13)
def sg_lliii:Sig (Nat × List T × Nat × List T × Int × Int × Int) where
 pk:=fun v=>[.lst v.1 v.2.1,.lst v.2.2.1 v.2.2.2.1,.int v.2.2.2.2.1,.int v.2.2.2.2.2.1,.int v.2.2.2.2.2.2]
 up:=fun ls=>match ls with
  | [.lst a0 a1,.lst a2 a3,.int a4,.int a5,.int a6]=>some (a0,a1,a2,a3,a4,a5,a6)
  | _=>none
 ok:=by intro _ _ h;split at h <;>cases h;rfl
def sg_iiillliilliilii:Sig (Int × Int × Int × Nat × List T × Nat × List T × Nat × List T × Int × Int × Nat × List T × Nat × List T × Int × Int × Nat × List T × Int × Int) where
 pk:=fun v=>[.int v.1,.int v.2.1,.int v.2.2.1,.lst v.2.2.2.1 v.2.2.2.2.1,.lst v.2.2.2.2.2.1 v.2.2.2.2.2.2.1,.lst v.2.2.2.2.2.2.2.1 v.2.2.2.2.2.2.2.2.1,.int v.2.2.2.2.2.2.2.2.2.1,.int v.2.2.2.2.2.2.2.2.2.2.1,.lst v.2.2.2.2.2.2.2.2.2.2.2.1 v.2.2.2.2.2.2.2.2.2.2.2.2.1,.lst v.2.2.2.2.2.2.2.2.2.2.2.2.2.1 v.2.2.2.2.2.2.2.2.2.2.2.2.2.2.1,.int v.2.2.2.2.2.2.2.2.2.2.2.2.2.2.2.1,.int v.2.2.2.2.2.2.2.2.2.2.2.2.2.2.2.2.1,.lst v.2.2.2.2.2.2.2.2.2.2.2.2.2.2.2.2.2.1 v.2.2.2.2.2.2.2.2.2.2.2.2.2.2.2.2.2.2.1,.int v.2.2.2.2.2.2.2.2.2.2.2.2.2.2.2.2.2.2.2.1,.int v.2.2.2.2.2.2.2.2.2.2.2.2.2.2.2.2.2.2.2.2]
 up:=fun ls=>match ls with
  | [.int a0,.int a1,.int a2,.lst a3 a4,.lst a5 a6,.lst a7 a8,.int a9,.int a10,.lst a11 a12,.lst a13 a14,.int a15,.int a16,.lst a17 a18,.int a19,.int a20]=>some (a0,a1,a2,a3,a4,a5,a6,a7,a8,a9,a10,a11,a12,a13,a14,a15,a16,a17,a18,a19,a20)
  | _=>none
 ok:=by intro _ _ h;split at h <;>cases h;rfl
def sg_iiillllii:Sig (Int × Int × Int × Nat × List T × Nat × List T × Nat × List T × Nat × List T × Int × Int) where
 pk:=fun v=>[.int v.1,.int v.2.1,.int v.2.2.1,.lst v.2.2.2.1 v.2.2.2.2.1,.lst v.2.2.2.2.2.1 v.2.2.2.2.2.2.1,.lst v.2.2.2.2.2.2.2.1 v.2.2.2.2.2.2.2.2.1,.lst v.2.2.2.2.2.2.2.2.2.1 v.2.2.2.2.2.2.2.2.2.2.1,.int v.2.2.2.2.2.2.2.2.2.2.2.1,.int v.2.2.2.2.2.2.2.2.2.2.2.2]
 up:=fun ls=>match ls with
  | [.int a0,.int a1,.int a2,.lst a3 a4,.lst a5 a6,.lst a7 a8,.lst a9 a10,.int a11,.int a12]=>some (a0,a1,a2,a3,a4,a5,a6,a7,a8,a9,a10,a11,a12)
  | _=>none
 ok:=by intro _ _ h;split at h <;>cases h;rfl
def f100.l1.P:AS:=⟨[(1,qS23),(2,qS23),(3,qS23),(4,.box [.sl .shr [.leaf,.leaf,.sl .shr [.leaf]],.sl .shr [.sl .shr [.leaf,.leaf,.sl .shr [.leaf]],.leaf,.leaf,.leaf,.leaf]] [.lst 0 [],.lst 0 []] [] 0),(9,qS21),(11,.box [.leaf,.leaf,.sl .shr [.leaf]] [.int .i64 0,.int .i64 0,.lst 0 []] [] 0),(18,qS20),(19,qS23),(20,qS23),(29,qS22),(30,qS23),(31,qS23)],0⟩
def f100.l1.A:Alt (Int × Int × Int × Nat × List T × Nat × List T × Nat × List T × Nat × List T × Int × Int):=.one (.exit 2) ⟨[(1,qS23),(2,qS23),(3,qS23),(4,.box [.sl .shr [.leaf,.leaf,.sl .shr [.leaf]],.sl .shr [.sl .shr [.leaf,.leaf,.sl .shr [.leaf]],.leaf,.leaf,.leaf,.leaf]] [.lst 0 [],.lst 0 []] [] 0),(9,qS21),(18,qS20),(19,qS23),(20,qS23),(53,.dead),(54,.dead)],0⟩ sg_iiillllii
def f100.l1.F (n m:Nat) (v:Int × Int × Int × Nat × List T × Nat × List T × Nat × List T × Int × Int × Nat × List T × Nat × List T × Int × Int × Nat × List T × Int × Int):=f100.l1 n m v.1 v.2.1 v.2.2.1 v.2.2.2.1 v.2.2.2.2.1 v.2.2.2.2.2.1 v.2.2.2.2.2.2.1 v.2.2.2.2.2.2.2.1 v.2.2.2.2.2.2.2.2.1 v.2.2.2.2.2.2.2.2.2.1 v.2.2.2.2.2.2.2.2.2.2.1 v.2.2.2.2.2.2.2.2.2.2.2.1 v.2.2.2.2.2.2.2.2.2.2.2.2.1 v.2.2.2.2.2.2.2.2.2.2.2.2.2.1 v.2.2.2.2.2.2.2.2.2.2.2.2.2.2.1 v.2.2.2.2.2.2.2.2.2.2.2.2.2.2.2.1 v.2.2.2.2.2.2.2.2.2.2.2.2.2.2.2.2.1 v.2.2.2.2.2.2.2.2.2.2.2.2.2.2.2.2.2.1 v.2.2.2.2.2.2.2.2.2.2.2.2.2.2.2.2.2.2.1 v.2.2.2.2.2.2.2.2.2.2.2.2.2.2.2.2.2.2.2.1 v.2.2.2.2.2.2.2.2.2.2.2.2.2.2.2.2.2.2.2.2
def f100.l1.W (n:Nat):LpW:=.of 112 f100.l1.P sg_iiillliilliilii f100.l1.A (f100.l1.F n n)
def f100.l0.P:AS:=⟨[(1,qS23),(2,qS23),(3,qS23),(4,.box [.sl .shr [.leaf,.leaf,.sl .shr [.leaf]],.sl .shr [.sl .shr [.leaf,.leaf,.sl .shr [.leaf]],.leaf,.leaf,.leaf,.leaf]] [.lst 0 [],.lst 0 []] [] 0),(9,qS21),(18,qS20),(19,qS23),(20,qS23)],0⟩
def f100.l0.A:Alt (Nat × List T):=.one (.exit 0) ⟨[(9,qS21)],0⟩ sg_l
def f100.l0.F (n m:Nat) (v:Int × Int × Int × Nat × List T × Nat × List T × Nat × List T × Nat × List T × Int × Int):=f100.l0 n m v.1 v.2.1 v.2.2.1 v.2.2.2.1 v.2.2.2.2.1 v.2.2.2.2.2.1 v.2.2.2.2.2.2.1 v.2.2.2.2.2.2.2.1 v.2.2.2.2.2.2.2.2.1 v.2.2.2.2.2.2.2.2.2.1 v.2.2.2.2.2.2.2.2.2.2.1 v.2.2.2.2.2.2.2.2.2.2.2.1 v.2.2.2.2.2.2.2.2.2.2.2.2
def f100.l0.W (n:Nat):LpW:=.of 48 f100.l0.P sg_iiillllii f100.l0.A (f100.l0.F n n)
def f100.P:List Arg:=[qA17,qA14,qA14,qA14]
def f100.A:RAlt (Nat × List T):=.one ⟨[qV7],[none,none,none,none]⟩ sg_l
def f100.F (n:Nat) (v:Nat × List T × Nat × List T × Int × Int × Int):=f100 n v.1 v.2.1 v.2.2.1 v.2.2.2.1 v.2.2.2.2.1 v.2.2.2.2.2.1 v.2.2.2.2.2.2
def f100.O (n:Nat):Orc:=orcOf (E:=E) [f67.w,f91.w] [f100.l1.W n,f100.l0.W n] n
theorem f100.l1.ok:∀ n,LpS 100 c100 1 n (f100.O n):=lpS f100.l1.P sg_iiillliilliilii f100.l1.A f100.l1.F
theorem f100.l0.ok:∀ n,LpS 100 c100 0 n (f100.O n):=lpS f100.l0.P sg_iiillllii f100.l0.A f100.l0.F [loopAt c100 1] (fun n=>(.cons (f100.l1.ok n) .nil))
theorem f100.ok:FnS 100 f100.P sg_lliii f100.A f100.F:=fnS c100 f100.O [loopAt c100 0] (fun n=>(.cons (f100.l0.ok n) .nil))
def f100.w:FnW E:=fnW 100 f100.P sg_lliii f100.A f100.F f100.ok
def f51:Nat→Nat→List T→Nat→List T→Int→Int→Option (Nat × List T × Bool)
 | 0,_,_,_,_,_,_=>none
 | n+1,n1,l2,n3,l4,i5,i6 =>
   bd (f99 n n1 l2 n3 l4 i5 i6) fun r7 =>
   let b8:=r7
   br (!b8) (
    some (0,[],false)) (
    bd (f100 n n1 l2 n3 l4 i5 (0:Int) i6) fun r9 =>
    let n10:=r9.1
    let l11:=r9.2
    some (n10,l11,true))
def sg_lb:Sig (Nat × List T × Bool) where
 pk:=fun v=>[.lst v.1 v.2.1,.bool v.2.2]
 up:=fun ls=>match ls with
  | [.lst a0 a1,.bool a2]=>some (a0,a1,a2)
  | _=>none
 ok:=by intro _ _ h;split at h <;>cases h;rfl
def f51.P:List Arg:=[qA17,qA14,qA14]
def f51.A:RAlt (Nat × List T × Bool):=.one ⟨[qV7,qV8],[none,none,none]⟩ sg_lb
def f51.F (n:Nat) (v:Nat × List T × Nat × List T × Int × Int):=f51 n v.1 v.2.1 v.2.2.1 v.2.2.2.1 v.2.2.2.2.1 v.2.2.2.2.2
def f51.O (n:Nat):Orc:=orcOf (E:=E) [f99.w,f100.w] [] n
theorem f51.ok:FnS 51 f51.P sg_llii f51.A f51.F:=fnS c51 f51.O
def f51.w:FnW E:=fnW 51 f51.P sg_llii f51.A f51.F f51.ok
def f102:Nat→Int→Int→Nat→List T→Option (Int)
 | 0,_,_,_,_=>none
 | n+1,i1,i2,n3,l4 =>
   bd (f87 n (n3:Int)) fun r5 =>
   let i6:=r5
   some (IntKind.i64.wrap (i2+i6))
def f102.P:List Arg:=[qA15]
def f102.A:RAlt (Int):=.one ⟨[qV9],[none]⟩ sg_i
def f102.F (n:Nat) (v:Int × Int × Nat × List T):=f102 n v.1 v.2.1 v.2.2.1 v.2.2.2
def f102.O (n:Nat):Orc:=orcOf (E:=E) [f87.w] [] n
theorem f102.ok:FnS 102 f102.P sg_iil f102.A f102.F:=fnS c102 f102.O
def f102.w:FnW E:=fnW 102 f102.P sg_iil f102.A f102.F f102.ok
def f52.l0 (n:Nat):Nat→Nat→List T→Nat→List T→Int→Nat→List T→Int→Int→Option (Int)
 | 0,_,_,_,_,_,_,_,_,_=>none
 | m+1,n1,l2,n3,l4,i5,n6,l7,i8,i9 =>
   br (decide (i9<i8)) (
    gd ((decide ((0≤i9)∧(i9<(n6:Int))))&&(okAt [(CK.int .i64),(CK.int .i64),CK.lst] l7 (((Int.toNat i9) * 3)+0))) (
    let i10:=(iAt l7 (((Int.toNat i9) * 3)+0))
    let i11:=(iAt l7 ((((Int.toNat i9) * 3)+0)+1))
    let n12:=(nAt l7 (((((Int.toNat i9) * 3)+0)+1)+1))
    let l13:=(lAt l7 (((((Int.toNat i9) * 3)+0)+1)+1))
    bd (f102 n i10 i11 n12 l13) fun r14 =>
    let i15:=r14
    let i16:=(if (i15>i5) then i15 else i5)
    f52.l0 n m n1 l2 n3 l4 i16 n6 l7 i8 (IntKind.i64.wrap (i9+(1:Int))))) (
    some i5)
def f52:Nat→Nat→List T→Nat→List T→Option (Int × Bool)
 | 0,_,_,_,_=>none
 | n+1,n1,l2,n3,l4 =>
   bd (f101 n n1 l2 n3 l4) fun r5 =>
   let b6:=r5
   br (!b6) (
    some ((0:Int),false)) (
    bd (f52.l0 n n n1 l2 n3 l4 (0:Int) n1 l2 (n1:Int) (0:Int)) fun r7 =>
    let i8:=r7
    some (i8,true))
def sg_ib:Sig (Int × Bool) where
 pk:=fun v=>[.int v.1,.bool v.2]
 up:=fun ls=>match ls with
  | [.int a0,.bool a1]=>some (a0,a1)
  | _=>none
 ok:=by intro _ _ h;split at h <;>cases h;rfl
def sg_llilii:Sig (Nat × List T × Nat × List T × Int × Nat × List T × Int × Int) where
 pk:=fun v=>[.lst v.1 v.2.1,.lst v.2.2.1 v.2.2.2.1,.int v.2.2.2.2.1,.lst v.2.2.2.2.2.1 v.2.2.2.2.2.2.1,.int v.2.2.2.2.2.2.2.1,.int v.2.2.2.2.2.2.2.2]
 up:=fun ls=>match ls with
  | [.lst a0 a1,.lst a2 a3,.int a4,.lst a5 a6,.int a7,.int a8]=>some (a0,a1,a2,a3,a4,a5,a6,a7,a8)
  | _=>none
 ok:=by intro _ _ h;split at h <;>cases h;rfl
def f52.l0.P:AS:=⟨[(1,.box [.sl .shr [.leaf,.leaf,.sl .shr [.leaf]],.sl .shr [.sl .shr [.leaf,.leaf,.sl .shr [.leaf]],.leaf,.leaf,.leaf,.leaf]] [.lst 0 [],.lst 0 []] [] 0),(4,qS23),(11,qS20),(12,qS23),(13,qS23)],0⟩
def f52.l0.A:Alt (Int):=.one (.exit 0) ⟨[(4,qS23)],0⟩ sg_i
def f52.l0.F (n m:Nat) (v:Nat × List T × Nat × List T × Int × Nat × List T × Int × Int):=f52.l0 n m v.1 v.2.1 v.2.2.1 v.2.2.2.1 v.2.2.2.2.1 v.2.2.2.2.2.1 v.2.2.2.2.2.2.1 v.2.2.2.2.2.2.2.1 v.2.2.2.2.2.2.2.2
def f52.l0.W (n:Nat):LpW:=.of 80 f52.l0.P sg_llilii f52.l0.A (f52.l0.F n n)
def f52.P:List Arg:=[qA17]
def f52.A:RAlt (Int × Bool):=.one ⟨[qV9,qV8],[none]⟩ sg_ib
def f52.F (n:Nat) (v:Nat × List T × Nat × List T):=f52 n v.1 v.2.1 v.2.2.1 v.2.2.2
def f52.O (n:Nat):Orc:=orcOf (E:=E) [f101.w,f102.w] [f52.l0.W n] n
theorem f52.l0.ok:∀ n,LpS 52 c52 0 n (f52.O n):=lpS f52.l0.P sg_llilii f52.l0.A f52.l0.F
theorem f52.ok:FnS 52 f52.P sg_ll f52.A f52.F:=fnS c52 f52.O [loopAt c52 0] (fun n=>(.cons (f52.l0.ok n) .nil))
def f52.w:FnW E:=fnW 52 f52.P sg_ll f52.A f52.F f52.ok
def f8.l1 (n:Nat):Nat→Nat→List T→Nat→List T→Nat→List T→Int→Int→Nat→List T→Int→Nat→List T→Int→Int→Int→Nat→List T→Int→Int→Int→Int→Option (Nat × List T × Nat × List T × Nat × List T × Int × Int × Nat × List T × Int × Nat × List T × Int × Int × Int)
 | 0,_,_,_,_,_,_,_,_,_,_,_,_,_,_,_,_,_,_,_,_,_,_=>none
 | m+1,n1,l2,n3,l4,n5,l6,i7,i8,n9,l10,i11,n12,l13,i14,i15,i16,n17,l18,i19,i20,i21,i22 =>
   br (decide (i22<i21)) (
    let i23:=(IntKind.i64.wrap (i16+i22))
    br (i15==i7) (
     br (decide (i23<i8)) (
      gd (decide ((0≤i23)∧(i23<(n12:Int)))) (
      gd (okAt [(CK.flt .f32)] l13 (Int.toNat i23)) (
      gd ((decide ((0≤i22)∧(i22<(n17:Int))))&&(okAt [(CK.flt .f32)] l18 (Int.toNat i22))) (
      gd (decide ((0≤i23)∧(i23<(n12:Int)))) (
      gd (Nat.ble ((Int.toNat i23)+1) (List.length l13)) (
      let l24:=(setN l13 (Int.toNat i23) [(T.flt .f32 (fadd .f32 (fAt l13 (Int.toNat i23)) (fAt l18 (Int.toNat i22))))])
      f8.l1 n m n1 l2 n3 l4 n5 l6 i7 i8 n9 l10 i11 n12 l24 i14 i15 i16 n17 l18 i19 i20 i21 (IntKind.i64.wrap (i22+(1:Int))))))))) (
      f8.l1 n m n1 l2 n3 l4 n5 l6 i7 i8 n9 l10 i11 n12 l13 i14 i15 i16 n17 l18 i19 i20 i21 (IntKind.i64.wrap (i22+(1:Int))))) (
     f8.l1 n m n1 l2 n3 l4 n5 l6 i7 i8 n9 l10 i11 n12 l13 i14 i15 i16 n17 l18 i19 i20 i21 (IntKind.i64.wrap (i22+(1:Int))))) (
    some (n1,l2,n3,l4,n5,l6,i7,i8,n9,l10,i11,n12,l13,i14,i19,i20))
termination_by structural x=>x
def f8.l0 (n:Nat):Nat→Nat→List T→Nat→List T→Nat→List T→Int→Int→Nat→List T→Int→Nat→List T→Int→Int→Int→Option (Nat × List T × Nat × List T × Nat × List T × Nat × List T × Int × Nat × List T × Int)
 | 0,_,_,_,_,_,_,_,_,_,_,_,_,_,_,_,_=>none
 | m+1,n1,l2,n3,l4,n5,l6,i7,i8,n9,l10,i11,n12,l13,i14,i15,i16 =>
   br (decide (i16<i15)) (
    gd ((decide ((0≤i16)∧(i16<(n3:Int))))&&(okAt [(CK.int .i64),(CK.int .i64),CK.lst] l4 (((Int.toNat i16) * 3)+0))) (
    let i17:=(iAt l4 (((Int.toNat i16) * 3)+0))
    let i18:=(iAt l4 ((((Int.toNat i16) * 3)+0)+1))
    let n19:=(nAt l4 (((((Int.toNat i16) * 3)+0)+1)+1))
    let l20:=(lAt l4 (((((Int.toNat i16) * 3)+0)+1)+1))
    let i21:=(if ((IntKind.i64.wrap (i18+(n19:Int)))>i14) then (IntKind.i64.wrap (i18+(n19:Int))) else i14)
    bd (f8.l1 n n n1 l2 n3 l4 n5 l6 i7 i8 n9 l10 i11 n12 l13 i21 i17 i18 n19 l20 i15 i16 (n19:Int) (0:Int)) fun r22 =>
    let n23:=r22.1
    let l24:=r22.2.1
    let n25:=r22.2.2.1
    let l26:=r22.2.2.2.1
    let n27:=r22.2.2.2.2.1
    let l28:=r22.2.2.2.2.2.1
    let i29:=r22.2.2.2.2.2.2.1
    let i30:=r22.2.2.2.2.2.2.2.1
    let n31:=r22.2.2.2.2.2.2.2.2.1
    let l32:=r22.2.2.2.2.2.2.2.2.2.1
    let i33:=r22.2.2.2.2.2.2.2.2.2.2.1
    let n34:=r22.2.2.2.2.2.2.2.2.2.2.2.1
    let l35:=r22.2.2.2.2.2.2.2.2.2.2.2.2.1
    let i36:=r22.2.2.2.2.2.2.2.2.2.2.2.2.2.1
    let i37:=r22.2.2.2.2.2.2.2.2.2.2.2.2.2.2.1
    let i38:=r22.2.2.2.2.2.2.2.2.2.2.2.2.2.2.2
    f8.l0 n m n23 l24 n25 l26 n27 l28 i29 i30 n31 l32 i33 n34 l35 i36 i37 (IntKind.i64.wrap (i38+(1:Int))))) (
    some (n1,l2,n3,l4,n5,l6,n9,l10,i11,n12,l13,i14))
termination_by structural x=>x
def f140:Nat→Nat→Option (Int)
 | 0,_=>none
 | n+1,x1 =>
   br (fne .f32 x1 x1) (
    some (2143289344:Int)) (
    bd (xF32bits n x1) fun r2 =>
    let i3:=r2
    some (IntKind.i64.wrap i3))
def f140.P:List Arg:=[qA11]
def f140.A:RAlt (Int):=.one ⟨[qV9],[none]⟩ sg_i
def f140.F (n:Nat) (v:Nat):=f140 n v
def f140.O (n:Nat):Orc:=orcOf (E:=E) [x70.w] [] n
theorem f140.ok:FnS 140 f140.P sg_f f140.A f140.F:=fnS c140 f140.O
def f140.w:FnW E:=fnW 140 f140.P sg_f f140.A f140.F f140.ok
def f92:Nat→Nat→Nat→Option (Bool)
 | 0,_,_=>none
 | n+1,x1,x2 =>
   bd (f140 n x1) fun r3 =>
   let i4:=r3
   bd (f140 n x2) fun r5 =>
   let i6:=r5
   some (i4==i6)
def sg_ff:Sig (Nat × Nat) where
 pk:=fun v=>[.flt v.1,.flt v.2]
 up:=fun ls=>match ls with
  | [.flt a0,.flt a1]=>some (a0,a1)
  | _=>none
 ok:=by intro _ _ h;split at h <;>cases h;rfl
def f92.P:List Arg:=[qA11,qA11]
def f92.A:RAlt (Bool):=.one ⟨[qV8],[none,none]⟩ sg_b
def f92.F (n:Nat) (v:Nat × Nat):=f92 n v.1 v.2
def f92.O (n:Nat):Orc:=orcOf (E:=E) [f140.w] [] n
theorem f92.ok:FnS 92 f92.P sg_ff f92.A f92.F:=fnS c92 f92.O
def f92.w:FnW E:=fnW 92 f92.P sg_ff f92.A f92.F f92.ok
def f41:Nat→Nat→Nat→Option (Bool)
 | 0,_,_=>none
 | n+1,x1,x2 =>
   bd (f92 n x1 x2) fun r3 =>
   let b4:=r3
   some b4
def f41.P:List Arg:=[qA11,qA11]
def f41.A:RAlt (Bool):=.one ⟨[qV8],[none,none]⟩ sg_b
def f41.F (n:Nat) (v:Nat × Nat):=f41 n v.1 v.2
def f41.O (n:Nat):Orc:=orcOf (E:=E) [f92.w] [] n
theorem f41.ok:FnS 41 f41.P sg_ff f41.A f41.F:=fnS c41 f41.O
def f41.w:FnW E:=fnW 41 f41.P sg_ff f41.A f41.F f41.ok
def f39.l0 (n:Nat):Nat→Nat→List T→Nat→List T→Int→Option ((Bool) ⊕ (Unit))
 | 0,_,_,_,_,_=>none
 | m+1,n1,l2,n3,l4,i5 =>
   br (decide (i5<(n1:Int))) (
    gd ((decide ((0≤i5)∧(i5<(n1:Int))))&&(okAt [(CK.flt .f32)] l2 (Int.toNat i5))) (
    gd ((decide ((0≤i5)∧(i5<(n3:Int))))&&(okAt [(CK.flt .f32)] l4 (Int.toNat i5))) (
    bd (f41 n (fAt l2 (Int.toNat i5)) (fAt l4 (Int.toNat i5))) fun r6 =>
    let b7:=r6
    br (!b7) (
     some (Sum.inl false)) (
     f39.l0 n m n1 l2 n3 l4 (IntKind.i64.wrap (i5+(1:Int))))))) (
    some (Sum.inr ()))
def f39:Nat→Nat→List T→Nat→List T→Option (Bool)
 | 0,_,_,_,_=>none
 | n+1,n1,l2,n3,l4 =>
   br ((n1:Int) != (n3:Int)) (
    some false) (
    bd (f39.l0 n n n1 l2 n3 l4 (0:Int)) fun r5 =>
    sm r5 (fun u6 =>
     let b7:=u6
     some b7) (fun u8 =>
     some true))
def sg_lli:Sig (Nat × List T × Nat × List T × Int) where
 pk:=fun v=>[.lst v.1 v.2.1,.lst v.2.2.1 v.2.2.2.1,.int v.2.2.2.2]
 up:=fun ls=>match ls with
  | [.lst a0 a1,.lst a2 a3,.int a4]=>some (a0,a1,a2,a3,a4)
  | _=>none
 ok:=by intro _ _ h;split at h <;>cases h;rfl
def f39.l0.P:AS:=⟨[(0,qS22),(1,qS22),(5,qS23)],0⟩
def f39.l0.A:Alt ((Bool) ⊕ (Unit)):=.or (.one .ret ⟨[(4,qS24)],0⟩ sg_b) (.one (.exit 0) ⟨[(4,.dead)],0⟩ sg)
def f39.l0.F (n m:Nat) (v:Nat × List T × Nat × List T × Int):=f39.l0 n m v.1 v.2.1 v.2.2.1 v.2.2.2.1 v.2.2.2.2
def f39.l0.W (n:Nat):LpW:=.of 64 f39.l0.P sg_lli f39.l0.A (f39.l0.F n n)
def f39.P:List Arg:=[qA12,qA12]
def f39.A:RAlt (Bool):=.one ⟨[qV8],[none,none]⟩ sg_b
def f39.F (n:Nat) (v:Nat × List T × Nat × List T):=f39 n v.1 v.2.1 v.2.2.1 v.2.2.2
def f39.O (n:Nat):Orc:=orcOf (E:=E) [f41.w] [f39.l0.W n] n
theorem f39.l0.ok:∀ n,LpS 39 c39 0 n (f39.O n):=lpS f39.l0.P sg_lli f39.l0.A f39.l0.F
theorem f39.ok:FnS 39 f39.P sg_ll f39.A f39.F:=fnS c39 f39.O [loopAt c39 0] (fun n=>(.cons (f39.l0.ok n) .nil))
def f39.w:FnW E:=fnW 39 f39.P sg_ll f39.A f39.F f39.ok
def f84:Nat→Nat→List T→Option (Nat × List T)
 | 0,_,_=>none
 | n+1,n1,l2 =>
   gd (Nat.ble (0+n1) 2147483648) (
   some ((0+n1),((reps 0 [(T.flt .f32 0)])++l2)))
def f84.P:List Arg:=[qA12]
def f84.A:RAlt (Nat × List T):=.one ⟨[qV7],[none]⟩ sg_l
def f84.F (n:Nat) (v:Nat × List T):=f84 n v.1 v.2
def f84.O (n:Nat):Orc:=orcOf (E:=E) [] [] n
theorem f84.ok:FnS 84 f84.P sg_l f84.A f84.F:=fnS c84 f84.O
def f84.w:FnW E:=fnW 84 f84.P sg_l f84.A f84.F f84.ok
def f103.l0 (n:Nat):Nat→Nat→List T→Nat→List T→Nat→List T→Nat→List T→Nat→List T→Nat→List T→Nat→List T→Int→Int→Option (Nat × List T × Nat × List T × Nat × List T × Nat × List T × Nat × List T × Nat × List T)
 | 0,_,_,_,_,_,_,_,_,_,_,_,_,_,_,_,_=>none
 | m+1,n1,l2,n3,l4,n5,l6,n7,l8,n9,l10,n11,l12,n13,l14,i15,i16 =>
   br (decide (i16<i15)) (
    gd ((decide ((0≤i16)∧(i16<(n13:Int))))&&(okAt [(CK.int .i64),(CK.int .i64),CK.lst] l14 (((Int.toNat i16) * 3)+0))) (
    let i17:=(iAt l14 (((Int.toNat i16) * 3)+0))
    let i18:=(iAt l14 ((((Int.toNat i16) * 3)+0)+1))
    let n19:=(nAt l14 (((((Int.toNat i16) * 3)+0)+1)+1))
    let l20:=(lAt l14 (((((Int.toNat i16) * 3)+0)+1)+1))
    bd (f84 n n19 l20) fun r21 =>
    let n22:=r21.1
    let l23:=r21.2
    gd (Nat.ble (n9+1) 2147483648) (
    let n24:=(n9+1)
    let l25:=(l10++(setN (reps 1 [(T.int .i64 (0:Int)),(T.int .i64 (0:Int)),(T.lst 0 [])]) 0 [(T.int .i64 i17),(T.int .i64 i18),(T.lst n22 l23)]))
    f103.l0 n m n1 l2 n3 l4 n5 l6 n7 l8 n24 l25 n11 l12 n13 l14 i15 (IntKind.i64.wrap (i16+(1:Int)))))) (
    some (n1,l2,n3,l4,n5,l6,n7,l8,n9,l10,n11,l12))
termination_by structural x=>x
def f78.l0 (n:Nat):Nat→Nat→List T→Nat→List T→Nat→List T→Int→Int→Option (Nat × List T)
 | 0,_,_,_,_,_,_,_,_=>none
 | m+1,n1,l2,n3,l4,n5,l6,i7,i8 =>
   br (decide (i8<i7)) (
    gd ((decide ((0≤i8)∧(i8<(n5:Int))))&&(okAt [(CK.int .i64),(CK.int .i64),CK.lst] l6 (((Int.toNat i8) * 3)+0))) (
    let i9:=(iAt l6 (((Int.toNat i8) * 3)+0))
    let i10:=(iAt l6 ((((Int.toNat i8) * 3)+0)+1))
    let n11:=(nAt l6 (((((Int.toNat i8) * 3)+0)+1)+1))
    let l12:=(lAt l6 (((((Int.toNat i8) * 3)+0)+1)+1))
    bd (f84 n n11 l12) fun r13 =>
    let n14:=r13.1
    let l15:=r13.2
    gd (Nat.ble (n3+1) 2147483648) (
    let n16:=(n3+1)
    let l17:=(l4++(setN (reps 1 [(T.int .i64 (0:Int)),(T.int .i64 (0:Int)),(T.lst 0 [])]) 0 [(T.int .i64 i9),(T.int .i64 i10),(T.lst n14 l15)]))
    f78.l0 n m n1 l2 n16 l17 n5 l6 i7 (IntKind.i64.wrap (i8+(1:Int)))))) (
    some (n3,l4))
def f78:Nat→Nat→List T→Option (Nat × List T)
 | 0,_,_=>none
 | n+1,n1,l2 =>
   bd (f78.l0 n n n1 l2 0 [] n1 l2 (n1:Int) (0:Int)) fun r3 =>
   let n4:=r3.1
   let l5:=r3.2
   some (n4,l5)
def f78.l0.P:AS:=⟨[(0,qS20),(3,qS19),(6,qS20),(7,qS23),(8,qS23)],0⟩
def f78.l0.A:Alt (Nat × List T):=.one (.exit 0) ⟨[(3,qS19)],0⟩ sg_l
def f78.l0.F (n m:Nat) (v:Nat × List T × Nat × List T × Nat × List T × Int × Int):=f78.l0 n m v.1 v.2.1 v.2.2.1 v.2.2.2.1 v.2.2.2.2.1 v.2.2.2.2.2.1 v.2.2.2.2.2.2.1 v.2.2.2.2.2.2.2
def f78.l0.W (n:Nat):LpW:=.of 48 f78.l0.P sg_lllii f78.l0.A (f78.l0.F n n)
def f78.P:List Arg:=[qA16]
def f78.A:RAlt (Nat × List T):=.one ⟨[qV4],[none]⟩ sg_l
def f78.F (n:Nat) (v:Nat × List T):=f78 n v.1 v.2
def f78.O (n:Nat):Orc:=orcOf (E:=E) [f84.w] [f78.l0.W n] n
theorem f78.l0.ok:∀ n,LpS 78 c78 0 n (f78.O n):=lpS f78.l0.P sg_lllii f78.l0.A f78.l0.F
theorem f78.ok:FnS 78 f78.P sg_l f78.A f78.F:=fnS c78 f78.O [loopAt c78 0] (fun n=>(.cons (f78.l0.ok n) .nil))
def f78.w:FnW E:=fnW 78 f78.P sg_l f78.A f78.F f78.ok
def f103.l1 (n:Nat):Nat→Nat→List T→Nat→List T→Nat→List T→Nat→List T→Nat→List T→Nat→List T→Nat→List T→Int→Int→Option (Nat × List T × Nat × List T × Nat × List T × Nat × List T)
 | 0,_,_,_,_,_,_,_,_,_,_,_,_,_,_,_,_=>none
 | m+1,n1,l2,n3,l4,n5,l6,n7,l8,n9,l10,n11,l12,n13,l14,i15,i16 =>
   br (decide (i16<i15)) (
    gd ((decide ((0≤i16)∧(i16<(n13:Int))))&&(okAt [CK.lst,(CK.int .i64),(CK.flt .f32),CK.bool,CK.bool] l14 (((Int.toNat i16) * 5)+0))) (
    let n17:=(nAt l14 (((Int.toNat i16) * 5)+0))
    let l18:=(lAt l14 (((Int.toNat i16) * 5)+0))
    let i19:=(iAt l14 ((((Int.toNat i16) * 5)+0)+1))
    let x20:=(fAt l14 (((((Int.toNat i16) * 5)+0)+1)+1))
    let b21:=(bAt l14 ((((((Int.toNat i16) * 5)+0)+1)+1)+1))
    let b22:=(bAt l14 (((((((Int.toNat i16) * 5)+0)+1)+1)+1)+1))
    bd (f78 n n17 l18) fun r23 =>
    let n24:=r23.1
    let l25:=r23.2
    gd (Nat.ble (n11+1) 2147483648) (
    let n26:=(n11+1)
    let l27:=(l12++(setN (reps 1 [(T.lst 0 []),(T.int .i64 (0:Int)),(T.flt .f32 0),(T.bool false),(T.bool false)]) 0 [(T.lst n24 l25),(T.int .i64 i19),(T.flt .f32 x20),(T.bool b21),(T.bool b22)]))
    f103.l1 n m n1 l2 n3 l4 n5 l6 n7 l8 n9 l10 n26 l27 n13 l14 i15 (IntKind.i64.wrap (i16+(1:Int)))))) (
    some (n5,l6,n7,l8,n9,l10,n11,l12))
termination_by structural x=>x
def f103:Nat→Nat→List T→Nat→List T→Option (Nat × List T × Nat × List T)
 | 0,_,_,_,_=>none
 | n+1,n1,l2,n3,l4 =>
   bd (f103.l0 n n n1 l2 n3 l4 0 [] 0 [] 0 [] 0 [] n1 l2 (n1:Int) (0:Int)) fun r5 =>
   let n6:=r5.1
   let l7:=r5.2.1
   let n8:=r5.2.2.1
   let l9:=r5.2.2.2.1
   let n10:=r5.2.2.2.2.1
   let l11:=r5.2.2.2.2.2.1
   let n12:=r5.2.2.2.2.2.2.1
   let l13:=r5.2.2.2.2.2.2.2.1
   let n14:=r5.2.2.2.2.2.2.2.2.1
   let l15:=r5.2.2.2.2.2.2.2.2.2.1
   let n16:=r5.2.2.2.2.2.2.2.2.2.2.1
   let l17:=r5.2.2.2.2.2.2.2.2.2.2.2
   bd (f103.l1 n n n6 l7 n8 l9 n10 l11 n12 l13 n14 l15 n16 l17 n8 l9 (n8:Int) (0:Int)) fun r18 =>
   let n23:=r18.2.2.2.2.1
   let l24:=r18.2.2.2.2.2.1
   let n25:=r18.2.2.2.2.2.2.1
   let l26:=r18.2.2.2.2.2.2.2
   some (n23,l24,n25,l26)
def sg_lllllllii:Sig (Nat × List T × Nat × List T × Nat × List T × Nat × List T × Nat × List T × Nat × List T × Nat × List T × Int × Int) where
 pk:=fun v=>[.lst v.1 v.2.1,.lst v.2.2.1 v.2.2.2.1,.lst v.2.2.2.2.1 v.2.2.2.2.2.1,.lst v.2.2.2.2.2.2.1 v.2.2.2.2.2.2.2.1,.lst v.2.2.2.2.2.2.2.2.1 v.2.2.2.2.2.2.2.2.2.1,.lst v.2.2.2.2.2.2.2.2.2.2.1 v.2.2.2.2.2.2.2.2.2.2.2.1,.lst v.2.2.2.2.2.2.2.2.2.2.2.2.1 v.2.2.2.2.2.2.2.2.2.2.2.2.2.1,.int v.2.2.2.2.2.2.2.2.2.2.2.2.2.2.1,.int v.2.2.2.2.2.2.2.2.2.2.2.2.2.2.2]
 up:=fun ls=>match ls with
  | [.lst a0 a1,.lst a2 a3,.lst a4 a5,.lst a6 a7,.lst a8 a9,.lst a10 a11,.lst a12 a13,.int a14,.int a15]=>some (a0,a1,a2,a3,a4,a5,a6,a7,a8,a9,a10,a11,a12,a13,a14,a15)
  | _=>none
 ok:=by intro _ _ h;split at h <;>cases h;rfl
def sg_llllll:Sig (Nat × List T × Nat × List T × Nat × List T × Nat × List T × Nat × List T × Nat × List T) where
 pk:=fun v=>[.lst v.1 v.2.1,.lst v.2.2.1 v.2.2.2.1,.lst v.2.2.2.2.1 v.2.2.2.2.2.1,.lst v.2.2.2.2.2.2.1 v.2.2.2.2.2.2.2.1,.lst v.2.2.2.2.2.2.2.2.1 v.2.2.2.2.2.2.2.2.2.1,.lst v.2.2.2.2.2.2.2.2.2.2.1 v.2.2.2.2.2.2.2.2.2.2.2]
 up:=fun ls=>match ls with
  | [.lst a0 a1,.lst a2 a3,.lst a4 a5,.lst a6 a7,.lst a8 a9,.lst a10 a11]=>some (a0,a1,a2,a3,a4,a5,a6,a7,a8,a9,a10,a11)
  | _=>none
 ok:=by intro _ _ h;split at h <;>cases h;rfl
def sg_llll:Sig (Nat × List T × Nat × List T × Nat × List T × Nat × List T) where
 pk:=fun v=>[.lst v.1 v.2.1,.lst v.2.2.1 v.2.2.2.1,.lst v.2.2.2.2.1 v.2.2.2.2.2.1,.lst v.2.2.2.2.2.2.1 v.2.2.2.2.2.2.2]
 up:=fun ls=>match ls with
  | [.lst a0 a1,.lst a2 a3,.lst a4 a5,.lst a6 a7]=>some (a0,a1,a2,a3,a4,a5,a6,a7)
  | _=>none
 ok:=by intro _ _ h;split at h <;>cases h;rfl
def f103.l0.P:AS:=⟨[(1,.box [.sl .shr [.leaf,.leaf,.sl .shr [.leaf]],.sl .shr [.sl .shr [.leaf,.leaf,.sl .shr [.leaf]],.leaf,.leaf,.leaf,.leaf]] [.lst 0 [],.lst 0 []] [] 0),(2,.box [.sl .own [.leaf,.leaf,.sl .own [.leaf]],.sl .own [.sl .own [.leaf,.leaf,.sl .own [.leaf]],.leaf,.leaf,.leaf,.leaf]] [.lst 0 [],.lst 0 []] [] 0),(3,.box [.sl .own [.leaf,.leaf,.sl .own [.leaf]],.sl .own [.sl .own [.leaf,.leaf,.sl .own [.leaf]],.leaf,.leaf,.leaf,.leaf]] [.lst 0 [],.lst 0 []] [] 0),(9,qS20),(10,qS23),(11,qS23)],0⟩
def f103.l0.A:Alt (Nat × List T × Nat × List T × Nat × List T × Nat × List T × Nat × List T × Nat × List T):=.one (.exit 0) ⟨[(1,.box [.sl .shr [.leaf,.leaf,.sl .shr [.leaf]],.sl .shr [.sl .shr [.leaf,.leaf,.sl .shr [.leaf]],.leaf,.leaf,.leaf,.leaf]] [.lst 0 [],.lst 0 []] [] 0),(2,.box [.sl .own [.leaf,.leaf,.sl .own [.leaf]],.sl .own [.sl .own [.leaf,.leaf,.sl .own [.leaf]],.leaf,.leaf,.leaf,.leaf]] [.lst 0 [],.lst 0 []] [] 0),(3,.box [.sl .own [.leaf,.leaf,.sl .own [.leaf]],.sl .own [.sl .own [.leaf,.leaf,.sl .own [.leaf]],.leaf,.leaf,.leaf,.leaf]] [.lst 0 [],.lst 0 []] [] 0),(43,.dead)],0⟩ sg_llllll
def f103.l0.F (n m:Nat) (v:Nat × List T × Nat × List T × Nat × List T × Nat × List T × Nat × List T × Nat × List T × Nat × List T × Int × Int):=f103.l0 n m v.1 v.2.1 v.2.2.1 v.2.2.2.1 v.2.2.2.2.1 v.2.2.2.2.2.1 v.2.2.2.2.2.2.1 v.2.2.2.2.2.2.2.1 v.2.2.2.2.2.2.2.2.1 v.2.2.2.2.2.2.2.2.2.1 v.2.2.2.2.2.2.2.2.2.2.1 v.2.2.2.2.2.2.2.2.2.2.2.1 v.2.2.2.2.2.2.2.2.2.2.2.2.1 v.2.2.2.2.2.2.2.2.2.2.2.2.2.1 v.2.2.2.2.2.2.2.2.2.2.2.2.2.2.1 v.2.2.2.2.2.2.2.2.2.2.2.2.2.2.2
def f103.l0.W (n:Nat):LpW:=.of 48 f103.l0.P sg_lllllllii f103.l0.A (f103.l0.F n n)
def f103.l1.P:AS:=⟨[(1,.box [.sl .shr [.leaf,.leaf,.sl .shr [.leaf]],.sl .shr [.sl .shr [.leaf,.leaf,.sl .shr [.leaf]],.leaf,.leaf,.leaf,.leaf]] [.lst 0 [],.lst 0 []] [] 0),(2,.box [.sl .own [.leaf,.leaf,.sl .own [.leaf]],.sl .own [.sl .own [.leaf,.leaf,.sl .own [.leaf]],.leaf,.leaf,.leaf,.leaf]] [.lst 0 [],.lst 0 []] [] 0),(3,.box [.sl .own [.leaf,.leaf,.sl .own [.leaf]],.sl .own [.sl .own [.leaf,.leaf,.sl .own [.leaf]],.leaf,.leaf,.leaf,.leaf]] [.lst 0 [],.lst 0 []] [] 0),(27,.val false [.sl .shr [.sl .shr [.leaf,.leaf,.sl .shr [.leaf]],.leaf,.leaf,.leaf,.leaf]] [.lst 0 []] [] 0),(28,qS23),(29,qS23)],0⟩
def f103.l1.A:Alt (Nat × List T × Nat × List T × Nat × List T × Nat × List T):=.one (.exit 2) ⟨[(2,.box [.sl .own [.leaf,.leaf,.sl .own [.leaf]],.sl .own [.sl .own [.leaf,.leaf,.sl .own [.leaf]],.leaf,.leaf,.leaf,.leaf]] [.lst 0 [],.lst 0 []] [] 0),(3,.box [.sl .own [.leaf,.leaf,.sl .own [.leaf]],.sl .own [.sl .own [.leaf,.leaf,.sl .own [.leaf]],.leaf,.leaf,.leaf,.leaf]] [.lst 0 [],.lst 0 []] [] 0)],0⟩ sg_llll
def f103.l1.F (n m:Nat) (v:Nat × List T × Nat × List T × Nat × List T × Nat × List T × Nat × List T × Nat × List T × Nat × List T × Int × Int):=f103.l1 n m v.1 v.2.1 v.2.2.1 v.2.2.2.1 v.2.2.2.2.1 v.2.2.2.2.2.1 v.2.2.2.2.2.2.1 v.2.2.2.2.2.2.2.1 v.2.2.2.2.2.2.2.2.1 v.2.2.2.2.2.2.2.2.2.1 v.2.2.2.2.2.2.2.2.2.2.1 v.2.2.2.2.2.2.2.2.2.2.2.1 v.2.2.2.2.2.2.2.2.2.2.2.2.1 v.2.2.2.2.2.2.2.2.2.2.2.2.2.1 v.2.2.2.2.2.2.2.2.2.2.2.2.2.2.1 v.2.2.2.2.2.2.2.2.2.2.2.2.2.2.2
def f103.l1.W (n:Nat):LpW:=.of 144 f103.l1.P sg_lllllllii f103.l1.A (f103.l1.F n n)
def f103.P:List Arg:=[qA17]
def f103.A:RAlt (Nat × List T × Nat × List T):=.one ⟨[qV0],[none]⟩ sg_ll
def f103.F (n:Nat) (v:Nat × List T × Nat × List T):=f103 n v.1 v.2.1 v.2.2.1 v.2.2.2
def f103.O (n:Nat):Orc:=orcOf (E:=E) [f84.w,f78.w] [f103.l0.W n,f103.l1.W n] n
theorem f103.l0.ok:∀ n,LpS 103 c103 0 n (f103.O n):=lpS f103.l0.P sg_lllllllii f103.l0.A f103.l0.F
theorem f103.l1.ok:∀ n,LpS 103 c103 1 n (f103.O n):=lpS f103.l1.P sg_lllllllii f103.l1.A f103.l1.F
theorem f103.ok:FnS 103 f103.P sg_ll f103.A f103.F:=fnS c103 f103.O [loopAt c103 0,loopAt c103 1] (fun n=>(.cons (f103.l0.ok n) (.cons (f103.l1.ok n) .nil)))
def f103.w:FnW E:=fnW 103 f103.P sg_ll f103.A f103.F f103.ok
def f53.l0b (n:Nat):Nat→Int→Nat→List T→Nat→List T→Nat→List T→Nat→List T→Int→Int→Nat→List T→Option (Nat × List T × Nat × List T × Nat × List T × Nat × List T)
 | 0,_,_,_,_,_,_,_,_,_,_,_,_,_=>none
 | m+1,i1,n2,l3,n4,l5,n6,l7,n8,l9,i10,i11,n12,l13 =>
   br (decide (i1>(0:Int))) (
    bd (f102 n i10 i11 n12 l13) fun r14 =>
    let i15:=r14
    bd (f84 n n12 l13) fun r16 =>
    let n17:=r16.1
    let l18:=r16.2
    gd (Nat.ble (n6+1) 2147483648) (
    let n19:=(n6+1)
    let l20:=(l7++(setN (reps 1 [(T.int .i64 (0:Int)),(T.int .i64 (0:Int)),(T.lst 0 [])]) 0 [(T.int .i64 i10),(T.int .i64 i15),(T.lst n17 l18)]))
    f53.l0b n m (IntKind.i64.wrap (i1 - (1:Int))) n2 l3 n4 l5 n19 l20 n8 l9 i10 i15 n17 l18)) (
    some (n2,l3,n4,l5,n6,l7,n8,l9))
termination_by structural x=>x
def f53.l0 (n:Nat):Nat→Int→Nat→List T→Nat→List T→Nat→List T→Nat→List T→Int→Int→Nat→List T→Option (Nat × List T × Nat × List T × Nat × List T × Nat × List T)
 | 0,_,_,_,_,_,_,_,_,_,_,_,_,_=>none
 | m+1,i1,n2,l3,n4,l5,n6,l7,n8,l9,i10,i11,n12,l13 =>
   br (decide (i1>(0:Int))) (
    bd (f102 n i10 i11 n12 l13) fun r14 =>
    let i15:=r14
    bd (f84 n n12 l13) fun r16 =>
    let n17:=r16.1
    let l18:=r16.2
    gd (Nat.ble (n6+1) 2147483648) (
    let n19:=(n6+1)
    let l20:=(l7++(setN (reps 1 [(T.int .i64 (0:Int)),(T.int .i64 (0:Int)),(T.lst 0 [])]) 0 [(T.int .i64 i10),(T.int .i64 i15),(T.lst n17 l18)]))
    f53.l0b n m (IntKind.i64.wrap (i1 - (1:Int))) n2 l3 n4 l5 n19 l20 n8 l9 i10 i15 n17 l18)) (
    some (n2,l3,n4,l5,n6,l7,n8,l9))
def f104:Nat→Nat→List T→Nat→List T→Option ((Nat × List T × Nat × List T × Bool × Nat × List T × Nat × List T) ⊕ (Nat × List T × Nat × List T × Bool × Nat × List T × Nat × List T))
 | 0,_,_,_,_=>none
 | n+1,n1,l2,n3,l4 =>
   bd (f101 n n1 l2 n3 l4) fun r5 =>
   let b6:=r5
   br (!b6) (
    some (Sum.inl (0,[],0,[],false,n1,l2,n3,l4))) (
    some (Sum.inr (n1,l2,n3,l4,true,n1,l2,n3,l4)))
def sg_llbll:Sig (Nat × List T × Nat × List T × Bool × Nat × List T × Nat × List T) where
 pk:=fun v=>[.lst v.1 v.2.1,.lst v.2.2.1 v.2.2.2.1,.bool v.2.2.2.2.1,.lst v.2.2.2.2.2.1 v.2.2.2.2.2.2.1,.lst v.2.2.2.2.2.2.2.1 v.2.2.2.2.2.2.2.2]
 up:=fun ls=>match ls with
  | [.lst a0 a1,.lst a2 a3,.bool a4,.lst a5 a6,.lst a7 a8]=>some (a0,a1,a2,a3,a4,a5,a6,a7,a8)
  | _=>none
 ok:=by intro _ _ h;split at h <;>cases h;rfl
def f104.P:List Arg:=[⟨.io,qV0⟩]
def f104.A:RAlt ((Nat × List T × Nat × List T × Bool × Nat × List T × Nat × List T) ⊕ (Nat × List T × Nat × List T × Bool × Nat × List T × Nat × List T)):=.or (.one ⟨[qV0,qV8],[some qV0]⟩ sg_llbll) (.one ⟨[qV0,qV8],[some ⟨true,[.dead,.dead],[.lst 0 [],.lst 0 []]⟩]⟩ sg_llbll)
def f104.F (n:Nat) (v:Nat × List T × Nat × List T):=f104 n v.1 v.2.1 v.2.2.1 v.2.2.2
def f104.O (n:Nat):Orc:=orcOf (E:=E) [f101.w] [] n
theorem f104.ok:FnS 104 f104.P sg_ll f104.A f104.F:=fnS c104 f104.O
def f104.w:FnW E:=fnW 104 f104.P sg_ll f104.A f104.F f104.ok
def f53:Nat→Nat→List T→Nat→List T→Int→Int→Option (Nat × List T × Nat × List T × Bool)
 | 0,_,_,_,_,_,_=>none
 | n+1,n1,l2,n3,l4,i5,i6 =>
   bd (f101 n n1 l2 n3 l4) fun r7 =>
   let b8:=r7
   br (!b8) (
    some (0,[],0,[],false)) (
    bd (f83 n i5 (n1:Int)) fun r9 =>
    let b10:=r9
    br (!b10) (
     some (0,[],0,[],false)) (
     bd (f67 n i6 (1:Int) (12:Int)) fun r11 =>
     let b12:=r11
     br (!b12) (
      some (0,[],0,[],false)) (
      gd ((decide ((0≤i5)∧(i5<(n1:Int))))&&(okAt [(CK.int .i64),(CK.int .i64),CK.lst] l2 (((Int.toNat i5) * 3)+0))) (
      br ((((nAt l2 (((((Int.toNat i5) * 3)+0)+1)+1)):Nat):Int)==(0:Int)) (
       some (0,[],0,[],false)) (
       bd (f103 n n1 l2 n3 l4) fun r13 =>
       let n14:=r13.1
       let l15:=r13.2.1
       let n16:=r13.2.2.1
       let l17:=r13.2.2.2
       gd ((decide ((0≤i5)∧(i5<(n1:Int))))&&(okAt [(CK.int .i64),(CK.int .i64),CK.lst] l2 (((Int.toNat i5) * 3)+0))) (
       bd (f53.l0 n n i6 0 [] 0 [] n14 l15 n16 l17 (iAt l2 (((Int.toNat i5) * 3)+0)) (iAt l2 ((((Int.toNat i5) * 3)+0)+1)) (nAt l2 (((((Int.toNat i5) * 3)+0)+1)+1)) (lAt l2 (((((Int.toNat i5) * 3)+0)+1)+1))) fun r18 =>
       let n23:=r18.2.2.2.2.1
       let l24:=r18.2.2.2.2.2.1
       let n25:=r18.2.2.2.2.2.2.1
       let l26:=r18.2.2.2.2.2.2.2
       bd (f104 n n23 l24 n25 l26) fun r27 =>
       sm r27 (fun u28 =>
        let n29:=u28.1
        let l30:=u28.2.1
        let n31:=u28.2.2.1
        let l32:=u28.2.2.2.1
        let b33:=u28.2.2.2.2.1
        let n34:=u28.2.2.2.2.2.1
        let l35:=u28.2.2.2.2.2.2.1
        let n36:=u28.2.2.2.2.2.2.2.1
        let l37:=u28.2.2.2.2.2.2.2.2
        some (n29,l30,n31,l32,b33)) (fun u38 =>
        let n39:=u38.1
        let l40:=u38.2.1
        let n41:=u38.2.2.1
        let l42:=u38.2.2.2.1
        let b43:=u38.2.2.2.2.1
        let n44:=u38.2.2.2.2.2.1
        let l45:=u38.2.2.2.2.2.2.1
        let n46:=u38.2.2.2.2.2.2.2.1
        let l47:=u38.2.2.2.2.2.2.2.2
        some (n39,l40,n41,l42,b43))))))))
def sg_llb:Sig (Nat × List T × Nat × List T × Bool) where
 pk:=fun v=>[.lst v.1 v.2.1,.lst v.2.2.1 v.2.2.2.1,.bool v.2.2.2.2]
 up:=fun ls=>match ls with
  | [.lst a0 a1,.lst a2 a3,.bool a4]=>some (a0,a1,a2,a3,a4)
  | _=>none
 ok:=by intro _ _ h;split at h <;>cases h;rfl
def sg_illlliil:Sig (Int × Nat × List T × Nat × List T × Nat × List T × Nat × List T × Int × Int × Nat × List T) where
 pk:=fun v=>[.int v.1,.lst v.2.1 v.2.2.1,.lst v.2.2.2.1 v.2.2.2.2.1,.lst v.2.2.2.2.2.1 v.2.2.2.2.2.2.1,.lst v.2.2.2.2.2.2.2.1 v.2.2.2.2.2.2.2.2.1,.int v.2.2.2.2.2.2.2.2.2.1,.int v.2.2.2.2.2.2.2.2.2.2.1,.lst v.2.2.2.2.2.2.2.2.2.2.2.1 v.2.2.2.2.2.2.2.2.2.2.2.2]
 up:=fun ls=>match ls with
  | [.int a0,.lst a1 a2,.lst a3 a4,.lst a5 a6,.lst a7 a8,.int a9,.int a10,.lst a11 a12]=>some (a0,a1,a2,a3,a4,a5,a6,a7,a8,a9,a10,a11,a12)
  | _=>none
 ok:=by intro _ _ h;split at h <;>cases h;rfl
def f53.l0b.P:AS:=⟨[(2,qS23),(6,.box [.sl .own [.leaf,.leaf,.sl .own [.leaf]],.sl .own [.sl .own [.leaf,.leaf,.sl .own [.leaf]],.leaf,.leaf,.leaf,.leaf]] [.lst 0 [],.lst 0 []] [] 0),(8,.box [.sl .own [.leaf,.leaf,.sl .own [.leaf]],.sl .own [.sl .own [.leaf,.leaf,.sl .own [.leaf]],.leaf,.leaf,.leaf,.leaf]] [.lst 0 [],.lst 0 []] [] 0),(9,.box [.leaf,.leaf,.sl (.lent 0) [.leaf]] [.int .i64 0,.int .i64 0,.lst 0 []] [] 0)],0⟩
def f53.l0b.A:Alt (Nat × List T × Nat × List T × Nat × List T × Nat × List T):=.one (.exit 0) ⟨[(6,.box [.sl .own [.leaf,.leaf,.sl .own [.leaf]],.sl .own [.sl .own [.leaf,.leaf,.sl .own [.leaf]],.leaf,.leaf,.leaf,.leaf]] [.lst 0 [],.lst 0 []] [] 0),(8,.box [.sl .own [.leaf,.leaf,.sl .own [.leaf]],.sl .own [.sl .own [.leaf,.leaf,.sl .own [.leaf]],.leaf,.leaf,.leaf,.leaf]] [.lst 0 [],.lst 0 []] [] 0)],0⟩ sg_llll
def f53.l0b.F (n m:Nat) (v:Int × Nat × List T × Nat × List T × Nat × List T × Nat × List T × Int × Int × Nat × List T):=f53.l0b n m v.1 v.2.1 v.2.2.1 v.2.2.2.1 v.2.2.2.2.1 v.2.2.2.2.2.1 v.2.2.2.2.2.2.1 v.2.2.2.2.2.2.2.1 v.2.2.2.2.2.2.2.2.1 v.2.2.2.2.2.2.2.2.2.1 v.2.2.2.2.2.2.2.2.2.2.1 v.2.2.2.2.2.2.2.2.2.2.2.1 v.2.2.2.2.2.2.2.2.2.2.2.2
def f53.l0.P:AS:=⟨[(2,qS23),(6,.box [.sl .own [.leaf,.leaf,.sl .own [.leaf]],.sl .own [.sl .own [.leaf,.leaf,.sl .own [.leaf]],.leaf,.leaf,.leaf,.leaf]] [.lst 0 [],.lst 0 []] [] 0),(8,.box [.sl .own [.leaf,.leaf,.sl .own [.leaf]],.sl .own [.sl .own [.leaf,.leaf,.sl .own [.leaf]],.leaf,.leaf,.leaf,.leaf]] [.lst 0 [],.lst 0 []] [] 0),(9,.box [.leaf,.leaf,.sl .shr [.leaf]] [.int .i64 0,.int .i64 0,.lst 0 []] [] 0)],0⟩
def f53.l0.A:Alt (Nat × List T × Nat × List T × Nat × List T × Nat × List T):=.one (.exit 0) ⟨[(6,.box [.sl .own [.leaf,.leaf,.sl .own [.leaf]],.sl .own [.sl .own [.leaf,.leaf,.sl .own [.leaf]],.leaf,.leaf,.leaf,.leaf]] [.lst 0 [],.lst 0 []] [] 0),(8,.box [.sl .own [.leaf,.leaf,.sl .own [.leaf]],.sl .own [.sl .own [.leaf,.leaf,.sl .own [.leaf]],.leaf,.leaf,.leaf,.leaf]] [.lst 0 [],.lst 0 []] [] 0)],0⟩ sg_llll
def f53.l0.F (n m:Nat) (v:Int × Nat × List T × Nat × List T × Nat × List T × Nat × List T × Int × Int × Nat × List T):=f53.l0 n m v.1 v.2.1 v.2.2.1 v.2.2.2.1 v.2.2.2.2.1 v.2.2.2.2.2.1 v.2.2.2.2.2.2.1 v.2.2.2.2.2.2.2.1 v.2.2.2.2.2.2.2.2.1 v.2.2.2.2.2.2.2.2.2.1 v.2.2.2.2.2.2.2.2.2.2.1 v.2.2.2.2.2.2.2.2.2.2.2.1 v.2.2.2.2.2.2.2.2.2.2.2.2
def f53.l0.W (n:Nat):LpW:=.of2 80 f53.l0.P sg_illlliil f53.l0b.P sg_illlliil f53.l0.A (f53.l0.F n n) (f53.l0b.F n n)
def f53.P:List Arg:=[qA17,qA14,qA14]
def f53.A:RAlt (Nat × List T × Nat × List T × Bool):=.one ⟨[qV0,qV8],[none,none,none]⟩ sg_llb
def f53.F (n:Nat) (v:Nat × List T × Nat × List T × Int × Int):=f53 n v.1 v.2.1 v.2.2.1 v.2.2.2.1 v.2.2.2.2.1 v.2.2.2.2.2
def f53.O (n:Nat):Orc:=orcOf (E:=E) [f67.w,f83.w,f101.w,f102.w,f84.w,f103.w,f104.w] [f53.l0.W n] n
theorem f53.l0.ok (n:Nat):LpOk (f53.O n) E (evalFn E n) n (keepAt 53) (.loop (loopAt c53 0)) :=
 lp_pure2 f53.l0.P sg_illlliil f53.l0b.P sg_illlliil f53.l0.A (f53.l0.F n) (f53.l0b.F n) (orcOf_cf _ _ n) (lpOk_of (bs:=[]) (by kernel_rfl) .nil) (fun _=>rfl) (fun _=>rfl) (fun _ _=>by kernel_rfl) (fun _ _=>by kernel_rfl) (fun _ _ _=>by kernel_rfl)
theorem f53.ok:FnS 53 f53.P sg_llii f53.A f53.F:=fnS c53 f53.O [loopAt c53 0] (fun n=>(.cons (f53.l0.ok n) .nil))
def f53.w:FnW E:=fnW 53 f53.P sg_llii f53.A f53.F f53.ok
def f106:Nat→Int→Int→Int→Option (Bool)
 | 0,_,_,_=>none
 | n+1,i1,i2,i3 =>
   br (decide (i1≥i2)) (
    some (decide (i1≤i3))) (
    some false)
def f106.P:List Arg:=[qA14,qA14,qA14]
def f106.A:RAlt (Bool):=.one ⟨[qV8],[none,none,none]⟩ sg_b
def f106.F (n:Nat) (v:Int × Int × Int):=f106 n v.1 v.2.1 v.2.2
def f106.O (n:Nat):Orc:=orcOf (E:=E) [] [] n
theorem f106.ok:FnS 106 f106.P sg_iii f106.A f106.F:=fnS c106 f106.O
def f106.w:FnW E:=fnW 106 f106.P sg_iii f106.A f106.F f106.ok
def f145:Nat→Nat→List T→Int→Nat→Bool→Bool→Nat→List T→Option (Nat × List T × Int × Nat × Bool × Bool × Nat × List T)
 | 0,_,_,_,_,_,_,_,_=>none
 | n+1,n1,l2,i3,x4,b5,b6,n7,l8 =>
   some (n7,l8,i3,x4,b5,b6,n7,l8)
def sg_lifbbl:Sig (Nat × List T × Int × Nat × Bool × Bool × Nat × List T) where
 pk:=fun v=>[.lst v.1 v.2.1,.int v.2.2.1,.flt v.2.2.2.1,.bool v.2.2.2.2.1,.bool v.2.2.2.2.2.1,.lst v.2.2.2.2.2.2.1 v.2.2.2.2.2.2.2]
 up:=fun ls=>match ls with
  | [.lst a0 a1,.int a2,.flt a3,.bool a4,.bool a5,.lst a6 a7]=>some (a0,a1,a2,a3,a4,a5,a6,a7)
  | _=>none
 ok:=by intro _ _ h;split at h <;>cases h;rfl
def f145.P:List Arg:=[⟨.val,⟨false,[.rf .shr [.sl .shr [.leaf,.leaf,.sl .shr [.leaf]],.leaf,.leaf,.leaf,.leaf]],[.ref [.lst 0 [],.int .i64 0,.flt .f32 0,.bool false,.bool false]]⟩⟩,⟨.io,qV7⟩]
def f145.A:RAlt (Nat × List T × Int × Nat × Bool × Bool × Nat × List T):=.one ⟨[⟨true,[.sl .own [.leaf],.leaf,.leaf,.leaf,.leaf],[.lst 0 [],.int .i64 0,.flt .f32 0,.bool false,.bool false]⟩],[none,some ⟨false,[.dead],[.lst 0 []]⟩]⟩ sg_lifbbl
def f145.F (n:Nat) (v:Nat × List T × Int × Nat × Bool × Bool × Nat × List T):=f145 n v.1 v.2.1 v.2.2.1 v.2.2.2.1 v.2.2.2.2.1 v.2.2.2.2.2.1 v.2.2.2.2.2.2.1 v.2.2.2.2.2.2.2
def f145.O (n:Nat):Orc:=orcOf (E:=E) [] [] n
theorem f145.ok:FnS 145 f145.P sg_lifbbl f145.A f145.F:=fnS c145 f145.O
def f145.w:FnW E:=fnW 145 f145.P sg_lifbbl f145.A f145.F f145.ok
def f133:Nat→Int→Int→Option (Int × Int)
 | 0,_,_=>none
 | n+1,i1,i2 =>
   br (i1==(0:Int)) (
    br (i1==(0:Int)) (
     some ((1:Int),(0:Int))) (
     br (i1==(1:Int)) (
      some ((5:Int),(2:Int))) (
      br (i1==(2:Int)) (
       some ((2:Int),i2)) (
       br (i1==(3:Int)) (
        some ((4:Int),(1:Int))) (
        br (i1==(5:Int)) (
         some ((0:Int),(0:Int))) (
         br (i1==(6:Int)) (
          some ((2:Int),(IntKind.i64.wrap ((1:Int)+i2)))) (
          some ((-1:Int),(-1:Int))))))))) (
    br (i1==(4:Int)) (
     some ((1:Int),(0:Int))) (
     br (i1==(1:Int)) (
      some ((5:Int),(2:Int))) (
      br (i1==(2:Int)) (
       some ((2:Int),i2)) (
       br (i1==(3:Int)) (
        some ((4:Int),(1:Int))) (
        br (i1==(5:Int)) (
         some ((0:Int),(0:Int))) (
         br (i1==(6:Int)) (
          some ((2:Int),(IntKind.i64.wrap ((1:Int)+i2)))) (
          some ((-1:Int),(-1:Int)))))))))
def f133.P:List Arg:=[qA14,qA14]
def f133.A:RAlt (Int × Int):=.one ⟨[qV9,qV9],[none,none]⟩ sg_ii
def f133.F (n:Nat) (v:Int × Int):=f133 n v.1 v.2
def f133.O (n:Nat):Orc:=orcOf (E:=E) [] [] n
theorem f133.ok:FnS 133 f133.P sg_ii f133.A f133.F:=fnS c133 f133.O
def f133.w:FnW E:=fnW 133 f133.P sg_ii f133.A f133.F f133.ok
def f205:Nat→Nat→Option (Bool)
 | 0,_=>none
 | n+1,x1 =>
   some (feq .f32 (fsub .f32 x1 x1) 0)
def f205.P:List Arg:=[qA11]
def f205.A:RAlt (Bool):=.one ⟨[qV8],[none]⟩ sg_b
def f205.F (n:Nat) (v:Nat):=f205 n v
def f205.O (n:Nat):Orc:=orcOf (E:=E) [] [] n
theorem f205.ok:FnS 205 f205.P sg_f f205.A f205.F:=fnS c205 f205.O
def f205.w:FnW E:=fnW 205 f205.P sg_f f205.A f205.F f205.ok
def f194:Nat→Nat→Option (Bool)
 | 0,_=>none
 | n+1,x1 =>
   bd (f205 n x1) fun r2 =>
   let b3:=r2
   br b3 (
    some (fgt .f32 x1 0)) (
    some false)
def f194.P:List Arg:=[qA11]
def f194.A:RAlt (Bool):=.one ⟨[qV8],[none]⟩ sg_b
def f194.F (n:Nat) (v:Nat):=f194 n v
def f194.O (n:Nat):Orc:=orcOf (E:=E) [f205.w] [] n
theorem f194.ok:FnS 194 f194.P sg_f f194.A f194.F:=fnS c194 f194.O
def f194.w:FnW E:=fnW 194 f194.P sg_f f194.A f194.F f194.ok
def f177:Nat→Int→Int→Nat→List T→Option (Bool)
 | 0,_,_,_,_=>none
 | n+1,i1,i2,n3,l4 =>
   br (i1==(2:Int)) (
    br (i1==(6:Int)) (
     bd (f106 n i2 (1:Int) (32:Int)) fun r5 =>
     let b6:=r5
     br (!b6) (
      some false) (
      bd (f133 n i1 i2) fun r7 =>
      let i8:=r7.1
      br ((n3:Int)==i8) (
       br (i1 != (6:Int)) (
        some true) (
        gd ((decide ((0≤(0:Int))∧((0:Int)<(n3:Int))))&&(okAt [(CK.flt .f32)] l4 0)) (
        bd (f194 n (fAt l4 0)) fun r10 =>
        let b11:=r10
        some b11))) (
       some false))) (
     bd (f106 n i2 (1:Int) (32:Int)) fun r12 =>
     let b13:=r12
     br (!b13) (
      some false) (
      bd (f133 n i1 i2) fun r14 =>
      let i15:=r14.1
      br ((n3:Int)==i15) (
       br (i1 != (6:Int)) (
        some true) (
        gd ((decide ((0≤(0:Int))∧((0:Int)<(n3:Int))))&&(okAt [(CK.flt .f32)] l4 0)) (
        bd (f194 n (fAt l4 0)) fun r17 =>
        let b18:=r17
        some b18))) (
       some false)))) (
    br (i1==(6:Int)) (
     bd (f106 n i2 (0:Int) (32:Int)) fun r19 =>
     let b20:=r19
     br (!b20) (
      some false) (
      bd (f133 n i1 i2) fun r21 =>
      let i22:=r21.1
      br ((n3:Int)==i22) (
       br (i1 != (6:Int)) (
        some true) (
        gd ((decide ((0≤(0:Int))∧((0:Int)<(n3:Int))))&&(okAt [(CK.flt .f32)] l4 0)) (
        bd (f194 n (fAt l4 0)) fun r24 =>
        let b25:=r24
        some b25))) (
       some false))) (
     bd (f106 n i2 (0:Int) (0:Int)) fun r26 =>
     let b27:=r26
     br (!b27) (
      some false) (
      bd (f133 n i1 i2) fun r28 =>
      let i29:=r28.1
      br ((n3:Int)==i29) (
       br (i1 != (6:Int)) (
        some true) (
        gd ((decide ((0≤(0:Int))∧((0:Int)<(n3:Int))))&&(okAt [(CK.flt .f32)] l4 0)) (
        bd (f194 n (fAt l4 0)) fun r31 =>
        let b32:=r31
        some b32))) (
       some false))))
def f177.P:List Arg:=[⟨.val,⟨false,[.rf .shr [.leaf,.leaf,.sl .shr [.leaf]]],[.ref [.int .i64 0,.int .i64 0,.lst 0 []]]⟩⟩]
def f177.A:RAlt (Bool):=.one ⟨[qV8],[none]⟩ sg_b
def f177.F (n:Nat) (v:Int × Int × Nat × List T):=f177 n v.1 v.2.1 v.2.2.1 v.2.2.2
def f177.O (n:Nat):Orc:=orcOf (E:=E) [f106.w,f133.w,f194.w] [] n
theorem f177.ok:FnS 177 f177.P sg_iil f177.A f177.F:=fnS c177 f177.O
def f177.w:FnW E:=fnW 177 f177.P sg_iil f177.A f177.F f177.ok
def f146.l0 (n:Nat):Nat→Nat→List T→Int→Option ((Bool) ⊕ (Nat × List T))
 | 0,_,_,_=>none
 | m+1,n1,l2,i3 =>
   br (decide (i3<(n1:Int))) (
    br (decide ((n1:Int)≤(8:Int))) (
     gd ((decide ((0≤i3)∧(i3<(n1:Int))))&&(okAt [(CK.int .i64),(CK.int .i64),CK.lst] l2 (((Int.toNat i3) * 3)+0))) (
     bd (f177 n (iAt l2 (((Int.toNat i3) * 3)+0)) (iAt l2 ((((Int.toNat i3) * 3)+0)+1)) (nAt l2 (((((Int.toNat i3) * 3)+0)+1)+1)) (lAt l2 (((((Int.toNat i3) * 3)+0)+1)+1))) fun r4 =>
     let b5:=r4
     br (!b5) (
      some (Sum.inl false)) (
      f146.l0 n m n1 l2 (IntKind.i64.wrap (i3+(1:Int)))))) (
     some (Sum.inr (n1,l2)))) (
    some (Sum.inr (n1,l2)))
def f146:Nat→Nat→List T→Option (Bool)
 | 0,_,_=>none
 | n+1,n1,l2 =>
   bd (f146.l0 n n n1 l2 (0:Int)) fun r3 =>
   sm r3 (fun u4 =>
    let b5:=u4
    some b5) (fun u6 =>
    let n7:=u6.1
    let l8:=u6.2
    some (decide ((n7:Int)≤(8:Int))))
def sg_li:Sig (Nat × List T × Int) where
 pk:=fun v=>[.lst v.1 v.2.1,.int v.2.2]
 up:=fun ls=>match ls with
  | [.lst a0 a1,.int a2]=>some (a0,a1,a2)
  | _=>none
 ok:=by intro _ _ h;split at h <;>cases h;rfl
def f146.l0.P:AS:=⟨[(0,qS20),(3,qS23)],0⟩
def f146.l0.A:Alt ((Bool) ⊕ (Nat × List T)):=.or (.one .ret ⟨[(0,.dead),(2,qS24)],0⟩ sg_b) (.one (.exit 0) ⟨[(0,qS20),(2,.dead)],0⟩ sg_l)
def f146.l0.F (n m:Nat) (v:Nat × List T × Int):=f146.l0 n m v.1 v.2.1 v.2.2
def f146.l0.W (n:Nat):LpW:=.of 32 f146.l0.P sg_li f146.l0.A (f146.l0.F n n)
def f146.P:List Arg:=[qA16]
def f146.A:RAlt (Bool):=.one ⟨[qV8],[none]⟩ sg_b
def f146.F (n:Nat) (v:Nat × List T):=f146 n v.1 v.2
def f146.O (n:Nat):Orc:=orcOf (E:=E) [f177.w] [f146.l0.W n] n
theorem f146.l0.ok:∀ n,LpS 146 c146 0 n (f146.O n):=lpS f146.l0.P sg_li f146.l0.A f146.l0.F
theorem f146.ok:FnS 146 f146.P sg_l f146.A f146.F:=fnS c146 f146.O [loopAt c146 0] (fun n=>(.cons (f146.l0.ok n) .nil))
def f146.w:FnW E:=fnW 146 f146.P sg_l f146.A f146.F f146.ok
def f148:Nat→Nat→List T→Option (Bool)
 | 0,_,_=>none
 | n+1,n1,l2 =>
   some (decide ((n1:Int)≤(256:Int)))
def f148.P:List Arg:=[qA12]
def f148.A:RAlt (Bool):=.one ⟨[qV8],[none]⟩ sg_b
def f148.F (n:Nat) (v:Nat × List T):=f148 n v.1 v.2
def f148.O (n:Nat):Orc:=orcOf (E:=E) [] [] n
theorem f148.ok:FnS 148 f148.P sg_l f148.A f148.F:=fnS c148 f148.O
def f148.w:FnW E:=fnW 148 f148.P sg_l f148.A f148.F f148.ok
def f178:Nat→Nat→Option (Bool)
 | 0,_=>none
 | n+1,x1 =>
   br (fge .f32 x1 0) (
    some (fle .f32 x1 1065353216)) (
    some false)
def f178.P:List Arg:=[qA11]
def f178.A:RAlt (Bool):=.one ⟨[qV8],[none]⟩ sg_b
def f178.F (n:Nat) (v:Nat):=f178 n v
def f178.O (n:Nat):Orc:=orcOf (E:=E) [] [] n
theorem f178.ok:FnS 178 f178.P sg_f f178.A f178.F:=fnS c178 f178.O
def f178.w:FnW E:=fnW 178 f178.P sg_f f178.A f178.F f178.ok
def f147.l0 (n:Nat):Nat→Nat→List T→Int→Int→Option ((Bool) ⊕ (Nat × List T))
 | 0,_,_,_,_=>none
 | m+1,n1,l2,i3,i4 =>
   br (decide (i4<i3)) (
    gd ((decide ((0≤i4)∧(i4<(n1:Int))))&&(okAt [CK.lst,(CK.int .i64),(CK.flt .f32),CK.bool,CK.bool] l2 (((Int.toNat i4) * 5)+0))) (
    bd (f148 n (nAt l2 (((Int.toNat i4) * 5)+0)) (lAt l2 (((Int.toNat i4) * 5)+0))) fun r5 =>
    let b6:=r5
    br (!b6) (
     some (Sum.inl false)) (
     gd ((decide ((0≤i4)∧(i4<(n1:Int))))&&(okAt [CK.lst,(CK.int .i64),(CK.flt .f32),CK.bool,CK.bool] l2 (((Int.toNat i4) * 5)+0))) (
     bd (f106 n (iAt l2 ((((Int.toNat i4) * 5)+0)+1)) (-2000:Int) (2000:Int)) fun r7 =>
     let b8:=r7
     br (!b8) (
      some (Sum.inl false)) (
      gd ((decide ((0≤i4)∧(i4<(n1:Int))))&&(okAt [CK.lst,(CK.int .i64),(CK.flt .f32),CK.bool,CK.bool] l2 (((Int.toNat i4) * 5)+0))) (
      bd (f178 n (fAt l2 (((((Int.toNat i4) * 5)+0)+1)+1))) fun r9 =>
      let b10:=r9
      br (!b10) (
       some (Sum.inl false)) (
       f147.l0 n m n1 l2 i3 (IntKind.i64.wrap (i4+(1:Int)))))))))) (
    some (Sum.inr (n1,l2)))
def f147:Nat→Nat→List T→Option (Bool)
 | 0,_,_=>none
 | n+1,n1,l2 =>
   bd (f147.l0 n n n1 l2 (n1:Int) (0:Int)) fun r3 =>
   sm r3 (fun u4 =>
    let b5:=u4
    some b5) (fun u6 =>
    let n7:=u6.1
    let l8:=u6.2
    some (decide ((n7:Int)≤(8:Int))))
def f147.l0.P:AS:=⟨[(0,.val false [.sl .shr [.sl .shr [.leaf],.leaf,.leaf,.leaf,.leaf]] [.lst 0 []] [] 0),(5,qS23),(6,qS23)],0⟩
def f147.l0.A:Alt ((Bool) ⊕ (Nat × List T)):=.or (.one .ret ⟨[(0,.dead),(2,qS24)],0⟩ sg_b) (.one (.exit 0) ⟨[(0,.val false [.sl .shr [.sl .shr [.leaf],.leaf,.leaf,.leaf,.leaf]] [.lst 0 []] [] 0),(2,.dead)],0⟩ sg_l)
def f147.l0.F (n m:Nat) (v:Nat × List T × Int × Int):=f147.l0 n m v.1 v.2.1 v.2.2.1 v.2.2.2
def f147.l0.W (n:Nat):LpW:=.of 32 f147.l0.P sg_lii f147.l0.A (f147.l0.F n n)
def f147.P:List Arg:=[⟨.val,⟨false,[.sl .shr [.sl .shr [.leaf],.leaf,.leaf,.leaf,.leaf]],[.lst 0 []]⟩⟩]
def f147.A:RAlt (Bool):=.one ⟨[qV8],[none]⟩ sg_b
def f147.F (n:Nat) (v:Nat × List T):=f147 n v.1 v.2
def f147.O (n:Nat):Orc:=orcOf (E:=E) [f106.w,f148.w,f178.w] [f147.l0.W n] n
theorem f147.l0.ok:∀ n,LpS 147 c147 0 n (f147.O n):=lpS f147.l0.P sg_lii f147.l0.A f147.l0.F
theorem f147.ok:FnS 147 f147.P sg_l f147.A f147.F:=fnS c147 f147.O [loopAt c147 0] (fun n=>(.cons (f147.l0.ok n) .nil))
def f147.w:FnW E:=fnW 147 f147.P sg_l f147.A f147.F f147.ok
def f105.l0 (n:Nat):Nat→Nat→List T→Nat→List T→Int→Int→Int→Option ((Bool) ⊕ (Nat × List T × Nat × List T × Int))
 | 0,_,_,_,_,_,_,_=>none
 | m+1,n1,l2,n3,l4,i5,i6,i7 =>
   br (decide (i7<i6)) (
    gd ((decide ((0≤i7)∧(i7<(n3:Int))))&&(okAt [CK.lst,(CK.int .i64),(CK.flt .f32),CK.bool,CK.bool] l4 (((Int.toNat i7) * 5)+0))) (
    bd (f145 n (nAt l4 (((Int.toNat i7) * 5)+0)) (lAt l4 (((Int.toNat i7) * 5)+0)) (iAt l4 ((((Int.toNat i7) * 5)+0)+1)) (fAt l4 (((((Int.toNat i7) * 5)+0)+1)+1)) (bAt l4 ((((((Int.toNat i7) * 5)+0)+1)+1)+1)) (bAt l4 (((((((Int.toNat i7) * 5)+0)+1)+1)+1)+1)) 0 (reps 0 [(T.flt .f32 0)])) fun r8 =>
    let n9:=r8.1
    let l10:=r8.2.1
    let i11:=r8.2.2.1
    let x12:=r8.2.2.2.1
    let b13:=r8.2.2.2.2.1
    let b14:=r8.2.2.2.2.2.1
    gd ((decide ((0≤i7)∧(i7<(n3:Int))))&&(okAt [CK.lst,(CK.int .i64),(CK.flt .f32),CK.bool,CK.bool] l4 (((Int.toNat i7) * 5)+0))) (
    bd (f146 n (nAt l4 (((Int.toNat i7) * 5)+0)) (lAt l4 (((Int.toNat i7) * 5)+0))) fun r17 =>
    let b18:=r17
    br (!b18) (
     some (Sum.inl false)) (
     bd (f147 n 1 (setN (reps 1 [(T.lst 0 []),(T.int .i64 (0:Int)),(T.flt .f32 0),(T.bool false),(T.bool false)]) 0 [(T.lst n9 l10),(T.int .i64 i11),(T.flt .f32 x12),(T.bool b13),(T.bool b14)])) fun r19 =>
     let b20:=r19
     br (!b20) (
      some (Sum.inl false)) (
      f105.l0 n m n1 l2 n3 l4 i5 i6 (IntKind.i64.wrap (i7+(1:Int)))))))) (
    some (Sum.inr (n1,l2,n3,l4,i5)))
def f105.l1 (n:Nat):Nat→Nat→List T→Nat→List T→Int→Int→Int→Option ((Bool) ⊕ (Unit))
 | 0,_,_,_,_,_,_,_=>none
 | m+1,n1,l2,n3,l4,i5,i6,i7 =>
   br (decide (i7<i6)) (
    gd ((decide ((0≤i7)∧(i7<(n1:Int))))&&(okAt [(CK.int .i64),(CK.int .i64),CK.lst] l2 (((Int.toNat i7) * 3)+0))) (
    bd (f106 n (iAt l2 (((Int.toNat i7) * 3)+0)) (0:Int) (IntKind.i64.wrap (i5 - (1:Int)))) fun r8 =>
    let b9:=r8
    br (!b9) (
     some (Sum.inl false)) (
     gd ((decide ((0≤i7)∧(i7<(n1:Int))))&&(okAt [(CK.int .i64),(CK.int .i64),CK.lst] l2 (((Int.toNat i7) * 3)+0))) (
     bd (f106 n (iAt l2 ((((Int.toNat i7) * 3)+0)+1)) (0:Int) (256:Int)) fun r10 =>
     let b11:=r10
     br (!b11) (
      some (Sum.inl false)) (
      gd ((decide ((0≤i7)∧(i7<(n1:Int))))&&(okAt [(CK.int .i64),(CK.int .i64),CK.lst] l2 (((Int.toNat i7) * 3)+0))) (
      bd (f148 n (nAt l2 (((((Int.toNat i7) * 3)+0)+1)+1)) (lAt l2 (((((Int.toNat i7) * 3)+0)+1)+1))) fun r12 =>
      let b13:=r12
      br (!b13) (
       some (Sum.inl false)) (
       f105.l1 n m n1 l2 n3 l4 i5 i6 (IntKind.i64.wrap (i7+(1:Int)))))))))) (
    some (Sum.inr ()))
def f105:Nat→Nat→List T→Nat→List T→Option (Bool)
 | 0,_,_,_,_=>none
 | n+1,n1,l2,n3,l4 =>
   let i5:=(n3:Int)
   bd (f106 n i5 (1:Int) (8:Int)) fun r6 =>
   let b7:=r6
   br (!b7) (
    some false) (
    br (decide ((n1:Int)>(12:Int))) (
     some false) (
     bd (f105.l0 n n n1 l2 n3 l4 i5 (n3:Int) (0:Int)) fun r8 =>
     sm r8 (fun u9 =>
      let b10:=u9
      some b10) (fun u11 =>
      let n12:=u11.1
      let l13:=u11.2.1
      let n14:=u11.2.2.1
      let l15:=u11.2.2.2.1
      let i16:=u11.2.2.2.2
      bd (f105.l1 n n n12 l13 n14 l15 i16 (n12:Int) (0:Int)) fun r17 =>
      sm r17 (fun u18 =>
       let b19:=u18
       some b19) (fun u20 =>
       some true))))
def f105.l0.P:AS:=⟨[(0,qS18),(3,qS23),(27,qS23),(28,qS23)],0⟩
def f105.l0.A:Alt ((Bool) ⊕ (Nat × List T × Nat × List T × Int)):=.or (.one .ret ⟨[(0,.dead),(2,qS24),(3,.dead),(100,.dead)],0⟩ sg_b) (.one (.exit 0) ⟨[(0,qS18),(2,.dead),(3,qS23),(100,.dead)],0⟩ sg_lli)
def f105.l0.F (n m:Nat) (v:Nat × List T × Nat × List T × Int × Int × Int):=f105.l0 n m v.1 v.2.1 v.2.2.1 v.2.2.2.1 v.2.2.2.2.1 v.2.2.2.2.2.1 v.2.2.2.2.2.2
def f105.l0.W (n:Nat):LpW:=.of 80 f105.l0.P sg_lliii f105.l0.A (f105.l0.F n n)
def f105.l1.P:AS:=⟨[(0,qS18),(3,qS23),(60,qS23),(61,qS23)],0⟩
def f105.l1.A:Alt ((Bool) ⊕ (Unit)):=.or (.one .ret ⟨[(2,qS24)],0⟩ sg_b) (.one (.exit 2) ⟨[(2,.dead)],0⟩ sg)
def f105.l1.F (n m:Nat) (v:Nat × List T × Nat × List T × Int × Int × Int):=f105.l1 n m v.1 v.2.1 v.2.2.1 v.2.2.2.1 v.2.2.2.2.1 v.2.2.2.2.2.1 v.2.2.2.2.2.2
def f105.l1.W (n:Nat):LpW:=.of 192 f105.l1.P sg_lliii f105.l1.A (f105.l1.F n n)
def f105.P:List Arg:=[⟨.val,⟨false,[.rf .shr [.sl .shr [.leaf,.leaf,.sl .shr [.leaf]],.sl .shr [.sl .shr [.leaf,.leaf,.sl .shr [.leaf]],.leaf,.leaf,.leaf,.leaf]]],[.ref [.lst 0 [],.lst 0 []]]⟩⟩]
def f105.A:RAlt (Bool):=.one ⟨[qV8],[none]⟩ sg_b
def f105.F (n:Nat) (v:Nat × List T × Nat × List T):=f105 n v.1 v.2.1 v.2.2.1 v.2.2.2
def f105.O (n:Nat):Orc:=orcOf (E:=E) [f106.w,f145.w,f146.w,f148.w,f147.w] [f105.l0.W n,f105.l1.W n] n
theorem f105.l0.ok:∀ n,LpS 105 c105 0 n (f105.O n):=lpS f105.l0.P sg_lliii f105.l0.A f105.l0.F
theorem f105.l1.ok:∀ n,LpS 105 c105 1 n (f105.O n):=lpS f105.l1.P sg_lliii f105.l1.A f105.l1.F
theorem f105.ok:FnS 105 f105.P sg_ll f105.A f105.F:=fnS c105 f105.O [loopAt c105 0,loopAt c105 1] (fun n=>(.cons (f105.l0.ok n) (.cons (f105.l1.ok n) .nil)))
def f105.w:FnW E:=fnW 105 f105.P sg_ll f105.A f105.F f105.ok
def f119:Nat→Nat→List T→Option (Nat × List T)
 | 0,_,_=>none
 | n+1,n1,l2 =>
   gd (Nat.ble (0+n1) 2147483648) (
   some ((0+n1),((reps 0 [(T.flt .f32 0)])++l2)))
def f119.P:List Arg:=[qA12]
def f119.A:RAlt (Nat × List T):=.one ⟨[qV7],[none]⟩ sg_l
def f119.F (n:Nat) (v:Nat × List T):=f119 n v.1 v.2
def f119.O (n:Nat):Orc:=orcOf (E:=E) [] [] n
theorem f119.ok:FnS 119 f119.P sg_l f119.A f119.F:=fnS c119 f119.O
def f119.w:FnW E:=fnW 119 f119.P sg_l f119.A f119.F f119.ok
def f108:Nat→Int→Int→Nat→List T→Option (Int × Int × Nat × List T)
 | 0,_,_,_,_=>none
 | n+1,i1,i2,n3,l4 =>
   bd (f119 n n3 l4) fun r5 =>
   let n6:=r5.1
   let l7:=r5.2
   some (i1,i2,n6,l7)
def f108.P:List Arg:=[⟨.val,⟨false,[.rf .shr [.leaf,.leaf,.sl .shr [.leaf]]],[.ref [.int .i64 0,.int .i64 0,.lst 0 []]]⟩⟩]
def f108.A:RAlt (Int × Int × Nat × List T):=.one ⟨[⟨true,[.leaf,.leaf,.sl .own [.leaf]],[.int .i64 0,.int .i64 0,.lst 0 []]⟩],[none]⟩ sg_iil
def f108.F (n:Nat) (v:Int × Int × Nat × List T):=f108 n v.1 v.2.1 v.2.2.1 v.2.2.2
def f108.O (n:Nat):Orc:=orcOf (E:=E) [f119.w] [] n
theorem f108.ok:FnS 108 f108.P sg_iil f108.A f108.F:=fnS c108 f108.O
def f108.w:FnW E:=fnW 108 f108.P sg_iil f108.A f108.F f108.ok
def f107.l0 (n:Nat):Nat→Nat→List T→Nat→List T→Nat→List T→Nat→List T→Nat→List T→Nat→List T→Int→Int→Option (Nat × List T × Nat × List T × Nat × List T × Nat × List T × Nat × List T × Nat × List T)
 | 0,_,_,_,_,_,_,_,_,_,_,_,_,_,_=>none
 | m+1,n1,l2,n3,l4,n5,l6,n7,l8,n9,l10,n11,l12,i13,i14 =>
   br (decide (i14<i13)) (
    gd ((decide ((0≤i14)∧(i14<(n1:Int))))&&(okAt [(CK.int .i64),(CK.int .i64),CK.lst] l2 (((Int.toNat i14) * 3)+0))) (
    bd (f108 n (iAt l2 (((Int.toNat i14) * 3)+0)) (iAt l2 ((((Int.toNat i14) * 3)+0)+1)) (nAt l2 (((((Int.toNat i14) * 3)+0)+1)+1)) (lAt l2 (((((Int.toNat i14) * 3)+0)+1)+1))) fun r15 =>
    let i16:=r15.1
    let i17:=r15.2.1
    let n18:=r15.2.2.1
    let l19:=r15.2.2.2
    gd (Nat.ble (n9+1) 2147483648) (
    let n20:=(n9+1)
    let l21:=(l10++(setN (reps 1 [(T.int .i64 (0:Int)),(T.int .i64 (0:Int)),(T.lst 0 [])]) 0 [(T.int .i64 i16),(T.int .i64 i17),(T.lst n18 l19)]))
    f107.l0 n m n1 l2 n3 l4 n5 l6 n7 l8 n20 l21 n11 l12 i13 (IntKind.i64.wrap (i14+(1:Int)))))) (
    some (n1,l2,n3,l4,n5,l6,n7,l8,n9,l10,n11,l12))
termination_by structural x=>x
def f149.l0 (n:Nat):Nat→Nat→List T→Nat→List T→Int→Int→Option (Nat × List T)
 | 0,_,_,_,_,_,_=>none
 | m+1,n1,l2,n3,l4,i5,i6 =>
   br (decide (i6<i5)) (
    gd ((decide ((0≤i6)∧(i6<(n1:Int))))&&(okAt [(CK.int .i64),(CK.int .i64),CK.lst] l2 (((Int.toNat i6) * 3)+0))) (
    let i7:=(iAt l2 (((Int.toNat i6) * 3)+0))
    let i8:=(iAt l2 ((((Int.toNat i6) * 3)+0)+1))
    let n9:=(nAt l2 (((((Int.toNat i6) * 3)+0)+1)+1))
    let l10:=(lAt l2 (((((Int.toNat i6) * 3)+0)+1)+1))
    bd (f119 n n9 l10) fun r11 =>
    let n12:=r11.1
    let l13:=r11.2
    gd (Nat.ble (n3+1) 2147483648) (
    let n14:=(n3+1)
    let l15:=(l4++(setN (reps 1 [(T.int .i64 (0:Int)),(T.int .i64 (0:Int)),(T.lst 0 [])]) 0 [(T.int .i64 i7),(T.int .i64 i8),(T.lst n12 l13)]))
    f149.l0 n m n1 l2 n14 l15 i5 (IntKind.i64.wrap (i6+(1:Int)))))) (
    some (n3,l4))
def f149:Nat→Nat→List T→Option (Nat × List T)
 | 0,_,_=>none
 | n+1,n1,l2 =>
   bd (f149.l0 n n n1 l2 0 (reps 0 [(T.int .i64 (0:Int)),(T.int .i64 (0:Int)),(T.lst 0 [])]) (n1:Int) (0:Int)) fun r3 =>
   let n4:=r3.1
   let l5:=r3.2
   some (n4,l5)
def f149.l0.P:AS:=⟨[(0,qS20),(3,qS19),(8,qS23),(9,qS23)],0⟩
def f149.l0.A:Alt (Nat × List T):=.one (.exit 0) ⟨[(3,qS19)],0⟩ sg_l
def f149.l0.F (n m:Nat) (v:Nat × List T × Nat × List T × Int × Int):=f149.l0 n m v.1 v.2.1 v.2.2.1 v.2.2.2.1 v.2.2.2.2.1 v.2.2.2.2.2
def f149.l0.W (n:Nat):LpW:=.of 48 f149.l0.P sg_llii f149.l0.A (f149.l0.F n n)
def f149.P:List Arg:=[qA16]
def f149.A:RAlt (Nat × List T):=.one ⟨[qV4],[none]⟩ sg_l
def f149.F (n:Nat) (v:Nat × List T):=f149 n v.1 v.2
def f149.O (n:Nat):Orc:=orcOf (E:=E) [f119.w] [f149.l0.W n] n
theorem f149.l0.ok:∀ n,LpS 149 c149 0 n (f149.O n):=lpS f149.l0.P sg_llii f149.l0.A f149.l0.F
theorem f149.ok:FnS 149 f149.P sg_l f149.A f149.F:=fnS c149 f149.O [loopAt c149 0] (fun n=>(.cons (f149.l0.ok n) .nil))
def f149.w:FnW E:=fnW 149 f149.P sg_l f149.A f149.F f149.ok
def f107.l1 (n:Nat):Nat→Nat→List T→Nat→List T→Nat→List T→Nat→List T→Nat→List T→Nat→List T→Int→Int→Option (Nat × List T × Nat × List T × Nat × List T × Nat × List T)
 | 0,_,_,_,_,_,_,_,_,_,_,_,_,_,_=>none
 | m+1,n1,l2,n3,l4,n5,l6,n7,l8,n9,l10,n11,l12,i13,i14 =>
   br (decide (i14<i13)) (
    gd ((decide ((0≤i14)∧(i14<(n3:Int))))&&(okAt [CK.lst,(CK.int .i64),(CK.flt .f32),CK.bool,CK.bool] l4 (((Int.toNat i14) * 5)+0))) (
    let n15:=(nAt l4 (((Int.toNat i14) * 5)+0))
    let l16:=(lAt l4 (((Int.toNat i14) * 5)+0))
    let i17:=(iAt l4 ((((Int.toNat i14) * 5)+0)+1))
    let x18:=(fAt l4 (((((Int.toNat i14) * 5)+0)+1)+1))
    let b19:=(bAt l4 ((((((Int.toNat i14) * 5)+0)+1)+1)+1))
    let b20:=(bAt l4 (((((((Int.toNat i14) * 5)+0)+1)+1)+1)+1))
    bd (f149 n n15 l16) fun r21 =>
    let n22:=r21.1
    let l23:=r21.2
    gd (Nat.ble (n11+1) 2147483648) (
    let n24:=(n11+1)
    let l25:=(l12++(setN (reps 1 [(T.lst 0 []),(T.int .i64 (0:Int)),(T.flt .f32 0),(T.bool false),(T.bool false)]) 0 [(T.lst n22 l23),(T.int .i64 i17),(T.flt .f32 x18),(T.bool b19),(T.bool b20)]))
    f107.l1 n m n1 l2 n3 l4 n5 l6 n7 l8 n9 l10 n24 l25 i13 (IntKind.i64.wrap (i14+(1:Int)))))) (
    some (n5,l6,n7,l8,n9,l10,n11,l12))
termination_by structural x=>x
def f107:Nat→Nat→List T→Nat→List T→Option (Nat × List T × Nat × List T)
 | 0,_,_,_,_=>none
 | n+1,n1,l2,n3,l4 =>
   bd (f107.l0 n n n1 l2 n3 l4 0 [] 0 [] 0 (reps 0 [(T.int .i64 (0:Int)),(T.int .i64 (0:Int)),(T.lst 0 [])]) 0 (reps 0 [(T.lst 0 []),(T.int .i64 (0:Int)),(T.flt .f32 0),(T.bool false),(T.bool false)]) (n1:Int) (0:Int)) fun r5 =>
   let n6:=r5.1
   let l7:=r5.2.1
   let n8:=r5.2.2.1
   let l9:=r5.2.2.2.1
   let n10:=r5.2.2.2.2.1
   let l11:=r5.2.2.2.2.2.1
   let n12:=r5.2.2.2.2.2.2.1
   let l13:=r5.2.2.2.2.2.2.2.1
   let n14:=r5.2.2.2.2.2.2.2.2.1
   let l15:=r5.2.2.2.2.2.2.2.2.2.1
   let n16:=r5.2.2.2.2.2.2.2.2.2.2.1
   let l17:=r5.2.2.2.2.2.2.2.2.2.2.2
   bd (f107.l1 n n n6 l7 n8 l9 n10 l11 n12 l13 n14 l15 n16 l17 (n8:Int) (0:Int)) fun r18 =>
   let n23:=r18.2.2.2.2.1
   let l24:=r18.2.2.2.2.2.1
   let n25:=r18.2.2.2.2.2.2.1
   let l26:=r18.2.2.2.2.2.2.2
   some (n23,l24,n25,l26)
def sg_llllllii:Sig (Nat × List T × Nat × List T × Nat × List T × Nat × List T × Nat × List T × Nat × List T × Int × Int) where
 pk:=fun v=>[.lst v.1 v.2.1,.lst v.2.2.1 v.2.2.2.1,.lst v.2.2.2.2.1 v.2.2.2.2.2.1,.lst v.2.2.2.2.2.2.1 v.2.2.2.2.2.2.2.1,.lst v.2.2.2.2.2.2.2.2.1 v.2.2.2.2.2.2.2.2.2.1,.lst v.2.2.2.2.2.2.2.2.2.2.1 v.2.2.2.2.2.2.2.2.2.2.2.1,.int v.2.2.2.2.2.2.2.2.2.2.2.2.1,.int v.2.2.2.2.2.2.2.2.2.2.2.2.2]
 up:=fun ls=>match ls with
  | [.lst a0 a1,.lst a2 a3,.lst a4 a5,.lst a6 a7,.lst a8 a9,.lst a10 a11,.int a12,.int a13]=>some (a0,a1,a2,a3,a4,a5,a6,a7,a8,a9,a10,a11,a12,a13)
  | _=>none
 ok:=by intro _ _ h;split at h <;>cases h;rfl
def f107.l0.P:AS:=⟨[(0,qS18),(2,.box [.sl .own [.leaf,.leaf,.sl .own [.leaf]],.sl .own [.sl .own [.leaf,.leaf,.sl .own [.leaf]],.leaf,.leaf,.leaf,.leaf]] [.lst 0 [],.lst 0 []] [] 0),(3,.box [.sl .own [.leaf,.leaf,.sl .own [.leaf]],.sl .own [.sl .own [.leaf,.leaf,.sl .own [.leaf]],.leaf,.leaf,.leaf,.leaf]] [.lst 0 [],.lst 0 []] [] 0),(14,qS23),(15,qS23)],0⟩
def f107.l0.A:Alt (Nat × List T × Nat × List T × Nat × List T × Nat × List T × Nat × List T × Nat × List T):=.one (.exit 0) ⟨[(0,qS18),(2,.box [.sl .own [.leaf,.leaf,.sl .own [.leaf]],.sl .own [.sl .own [.leaf,.leaf,.sl .own [.leaf]],.leaf,.leaf,.leaf,.leaf]] [.lst 0 [],.lst 0 []] [] 0),(3,.box [.sl .own [.leaf,.leaf,.sl .own [.leaf]],.sl .own [.sl .own [.leaf,.leaf,.sl .own [.leaf]],.leaf,.leaf,.leaf,.leaf]] [.lst 0 [],.lst 0 []] [] 0),(56,.dead)],0⟩ sg_llllll
def f107.l0.F (n m:Nat) (v:Nat × List T × Nat × List T × Nat × List T × Nat × List T × Nat × List T × Nat × List T × Int × Int):=f107.l0 n m v.1 v.2.1 v.2.2.1 v.2.2.2.1 v.2.2.2.2.1 v.2.2.2.2.2.1 v.2.2.2.2.2.2.1 v.2.2.2.2.2.2.2.1 v.2.2.2.2.2.2.2.2.1 v.2.2.2.2.2.2.2.2.2.1 v.2.2.2.2.2.2.2.2.2.2.1 v.2.2.2.2.2.2.2.2.2.2.2.1 v.2.2.2.2.2.2.2.2.2.2.2.2.1 v.2.2.2.2.2.2.2.2.2.2.2.2.2
def f107.l0.W (n:Nat):LpW:=.of 48 f107.l0.P sg_llllllii f107.l0.A (f107.l0.F n n)
def f107.l1.P:AS:=⟨[(0,qS18),(2,.box [.sl .own [.leaf,.leaf,.sl .own [.leaf]],.sl .own [.sl .own [.leaf,.leaf,.sl .own [.leaf]],.leaf,.leaf,.leaf,.leaf]] [.lst 0 [],.lst 0 []] [] 0),(3,.box [.sl .own [.leaf,.leaf,.sl .own [.leaf]],.sl .own [.sl .own [.leaf,.leaf,.sl .own [.leaf]],.leaf,.leaf,.leaf,.leaf]] [.lst 0 [],.lst 0 []] [] 0),(35,qS23),(36,qS23)],0⟩
def f107.l1.A:Alt (Nat × List T × Nat × List T × Nat × List T × Nat × List T):=.one (.exit 2) ⟨[(2,.box [.sl .own [.leaf,.leaf,.sl .own [.leaf]],.sl .own [.sl .own [.leaf,.leaf,.sl .own [.leaf]],.leaf,.leaf,.leaf,.leaf]] [.lst 0 [],.lst 0 []] [] 0),(3,.box [.sl .own [.leaf,.leaf,.sl .own [.leaf]],.sl .own [.sl .own [.leaf,.leaf,.sl .own [.leaf]],.leaf,.leaf,.leaf,.leaf]] [.lst 0 [],.lst 0 []] [] 0)],0⟩ sg_llll
def f107.l1.F (n m:Nat) (v:Nat × List T × Nat × List T × Nat × List T × Nat × List T × Nat × List T × Nat × List T × Int × Int):=f107.l1 n m v.1 v.2.1 v.2.2.1 v.2.2.2.1 v.2.2.2.2.1 v.2.2.2.2.2.1 v.2.2.2.2.2.2.1 v.2.2.2.2.2.2.2.1 v.2.2.2.2.2.2.2.2.1 v.2.2.2.2.2.2.2.2.2.1 v.2.2.2.2.2.2.2.2.2.2.1 v.2.2.2.2.2.2.2.2.2.2.2.1 v.2.2.2.2.2.2.2.2.2.2.2.2.1 v.2.2.2.2.2.2.2.2.2.2.2.2.2
def f107.l1.W (n:Nat):LpW:=.of 128 f107.l1.P sg_llllllii f107.l1.A (f107.l1.F n n)
def f107.P:List Arg:=[⟨.val,⟨false,[.rf .shr [.sl .shr [.leaf,.leaf,.sl .shr [.leaf]],.sl .shr [.sl .shr [.leaf,.leaf,.sl .shr [.leaf]],.leaf,.leaf,.leaf,.leaf]]],[.ref [.lst 0 [],.lst 0 []]]⟩⟩]
def f107.A:RAlt (Nat × List T × Nat × List T):=.one ⟨[qV0],[none]⟩ sg_ll
def f107.F (n:Nat) (v:Nat × List T × Nat × List T):=f107 n v.1 v.2.1 v.2.2.1 v.2.2.2
def f107.O (n:Nat):Orc:=orcOf (E:=E) [f108.w,f149.w] [f107.l0.W n,f107.l1.W n] n
theorem f107.l0.ok:∀ n,LpS 107 c107 0 n (f107.O n):=lpS f107.l0.P sg_llllllii f107.l0.A f107.l0.F
theorem f107.l1.ok:∀ n,LpS 107 c107 1 n (f107.O n):=lpS f107.l1.P sg_llllllii f107.l1.A f107.l1.F
theorem f107.ok:FnS 107 f107.P sg_ll f107.A f107.F:=fnS c107 f107.O [loopAt c107 0,loopAt c107 1] (fun n=>(.cons (f107.l0.ok n) (.cons (f107.l1.ok n) .nil)))
def f107.w:FnW E:=fnW 107 f107.P sg_ll f107.A f107.F f107.ok
def f54.l0 (n:Nat):Nat→Int→Int→Nat→List T→Nat→List T→Nat→List T→Nat→List T→Nat→List T→Nat→List T→Int→Option (Nat × List T × Nat × List T × Nat × List T × Nat × List T)
 | 0,_,_,_,_,_,_,_,_,_,_,_,_,_,_,_=>none
 | m+1,i1,i2,n3,l4,n5,l6,n7,l8,n9,l10,n11,l12,n13,l14,i15 =>
   br (decide (i15≤i2)) (
    gd ((decide ((0≤i1)∧(i1<(n3:Int))))&&(okAt [(CK.int .i64),(CK.int .i64),CK.lst] l4 (((Int.toNat i1) * 3)+0))) (
    bd (f108 n (iAt l4 (((Int.toNat i1) * 3)+0)) (iAt l4 ((((Int.toNat i1) * 3)+0)+1)) (nAt l4 (((((Int.toNat i1) * 3)+0)+1)+1)) (lAt l4 (((((Int.toNat i1) * 3)+0)+1)+1))) fun r16 =>
    let i17:=r16.1
    let i18:=r16.2.1
    let n19:=r16.2.2.1
    let l20:=r16.2.2.2
    let i21:=(IntKind.i64.wrap (i18+(IntKind.i64.wrap (i15 * (n19:Int)))))
    gd (Nat.ble (n11+1) 2147483648) (
    let n22:=(n11+1)
    let l23:=(l12++(setN (reps 1 [(T.int .i64 (0:Int)),(T.int .i64 (0:Int)),(T.lst 0 [])]) 0 [(T.int .i64 i17),(T.int .i64 i21),(T.lst n19 l20)]))
    f54.l0 n m i1 i2 n3 l4 n5 l6 n7 l8 n9 l10 n22 l23 n13 l14 (IntKind.i64.wrap (i15+(1:Int)))))) (
    some (n7,l8,n9,l10,n11,l12,n13,l14))
termination_by structural x=>x
def f54:Nat→Nat→List T→Nat→List T→Int→Int→Option (Nat × List T × Nat × List T × Bool)
 | 0,_,_,_,_,_,_=>none
 | n+1,n1,l2,n3,l4,i5,i6 =>
   bd (f105 n n1 l2 n3 l4) fun r7 =>
   let b8:=r7
   br (!b8) (
    some (0,[],0,[],false)) (
    bd (f106 n i5 (0:Int) (IntKind.i64.wrap ((n1:Int) - (1:Int)))) fun r9 =>
    let b10:=r9
    br (!b10) (
     some (0,[],0,[],false)) (
     bd (f106 n i6 (1:Int) (12:Int)) fun r11 =>
     let b12:=r11
     br (!b12) (
      some (0,[],0,[],false)) (
      gd ((decide ((0≤i5)∧(i5<(n1:Int))))&&(okAt [(CK.int .i64),(CK.int .i64),CK.lst] l2 (((Int.toNat i5) * 3)+0))) (
      br ((((nAt l2 (((((Int.toNat i5) * 3)+0)+1)+1)):Nat):Int)==(0:Int)) (
       some (0,[],0,[],false)) (
       bd (f107 n n1 l2 n3 l4) fun r13 =>
       let n14:=r13.1
       let l15:=r13.2.1
       let n16:=r13.2.2.1
       let l17:=r13.2.2.2
       bd (f54.l0 n n i5 i6 n1 l2 n3 l4 0 [] 0 [] n14 l15 n16 l17 (1:Int)) fun r18 =>
       let n23:=r18.2.2.2.2.1
       let l24:=r18.2.2.2.2.2.1
       let n25:=r18.2.2.2.2.2.2.1
       let l26:=r18.2.2.2.2.2.2.2
       bd (f105 n n23 l24 n25 l26) fun r27 =>
       let b28:=r27
       br (!b28) (
        some (0,[],0,[],false)) (
        some (n23,l24,n25,l26,true)))))))
def sg_iilllllli:Sig (Int × Int × Nat × List T × Nat × List T × Nat × List T × Nat × List T × Nat × List T × Nat × List T × Int) where
 pk:=fun v=>[.int v.1,.int v.2.1,.lst v.2.2.1 v.2.2.2.1,.lst v.2.2.2.2.1 v.2.2.2.2.2.1,.lst v.2.2.2.2.2.2.1 v.2.2.2.2.2.2.2.1,.lst v.2.2.2.2.2.2.2.2.1 v.2.2.2.2.2.2.2.2.2.1,.lst v.2.2.2.2.2.2.2.2.2.2.1 v.2.2.2.2.2.2.2.2.2.2.2.1,.lst v.2.2.2.2.2.2.2.2.2.2.2.2.1 v.2.2.2.2.2.2.2.2.2.2.2.2.2.1,.int v.2.2.2.2.2.2.2.2.2.2.2.2.2.2]
 up:=fun ls=>match ls with
  | [.int a0,.int a1,.lst a2 a3,.lst a4 a5,.lst a6 a7,.lst a8 a9,.lst a10 a11,.lst a12 a13,.int a14]=>some (a0,a1,a2,a3,a4,a5,a6,a7,a8,a9,a10,a11,a12,a13,a14)
  | _=>none
 ok:=by intro _ _ h;split at h <;>cases h;rfl
def f54.l0.P:AS:=⟨[(1,qS23),(2,qS23),(3,.box [.sl .shr [.leaf,.leaf,.sl .shr [.leaf]],.sl .shr [.sl .shr [.leaf,.leaf,.sl .shr [.leaf]],.leaf,.leaf,.leaf,.leaf]] [.lst 0 [],.lst 0 []] [] 0),(6,.box [.sl .own [.leaf,.leaf,.sl .own [.leaf]],.sl .own [.sl .own [.leaf,.leaf,.sl .own [.leaf]],.leaf,.leaf,.leaf,.leaf]] [.lst 0 [],.lst 0 []] [] 0),(8,.box [.sl .own [.leaf,.leaf,.sl .own [.leaf]],.sl .own [.sl .own [.leaf,.leaf,.sl .own [.leaf]],.leaf,.leaf,.leaf,.leaf]] [.lst 0 [],.lst 0 []] [] 0),(9,qS23)],0⟩
def f54.l0.A:Alt (Nat × List T × Nat × List T × Nat × List T × Nat × List T):=.one (.exit 0) ⟨[(6,.box [.sl .own [.leaf,.leaf,.sl .own [.leaf]],.sl .own [.sl .own [.leaf,.leaf,.sl .own [.leaf]],.leaf,.leaf,.leaf,.leaf]] [.lst 0 [],.lst 0 []] [] 0),(8,.box [.sl .own [.leaf,.leaf,.sl .own [.leaf]],.sl .own [.sl .own [.leaf,.leaf,.sl .own [.leaf]],.leaf,.leaf,.leaf,.leaf]] [.lst 0 [],.lst 0 []] [] 0)],0⟩ sg_llll
def f54.l0.F (n m:Nat) (v:Int × Int × Nat × List T × Nat × List T × Nat × List T × Nat × List T × Nat × List T × Nat × List T × Int):=f54.l0 n m v.1 v.2.1 v.2.2.1 v.2.2.2.1 v.2.2.2.2.1 v.2.2.2.2.2.1 v.2.2.2.2.2.2.1 v.2.2.2.2.2.2.2.1 v.2.2.2.2.2.2.2.2.1 v.2.2.2.2.2.2.2.2.2.1 v.2.2.2.2.2.2.2.2.2.2.1 v.2.2.2.2.2.2.2.2.2.2.2.1 v.2.2.2.2.2.2.2.2.2.2.2.2.1 v.2.2.2.2.2.2.2.2.2.2.2.2.2.1 v.2.2.2.2.2.2.2.2.2.2.2.2.2.2
def f54.l0.W (n:Nat):LpW:=.of 80 f54.l0.P sg_iilllllli f54.l0.A (f54.l0.F n n)
def f54.P:List Arg:=[qA17,qA14,qA14]
def f54.A:RAlt (Nat × List T × Nat × List T × Bool):=.one ⟨[qV0,qV8],[none,none,none]⟩ sg_llb
def f54.F (n:Nat) (v:Nat × List T × Nat × List T × Int × Int):=f54 n v.1 v.2.1 v.2.2.1 v.2.2.2.1 v.2.2.2.2.1 v.2.2.2.2.2
def f54.O (n:Nat):Orc:=orcOf (E:=E) [f106.w,f105.w,f108.w,f107.w] [f54.l0.W n] n
theorem f54.l0.ok:∀ n,LpS 54 c54 0 n (f54.O n):=lpS f54.l0.P sg_iilllllli f54.l0.A f54.l0.F
theorem f54.ok:FnS 54 f54.P sg_llii f54.A f54.F:=fnS c54 f54.O [loopAt c54 0] (fun n=>(.cons (f54.l0.ok n) .nil))
def f54.w:FnW E:=fnW 54 f54.P sg_llii f54.A f54.F f54.ok
def f8.l2 (n:Nat):Nat→Nat→List T→Nat→List T→Int→Nat→List T→Nat→List T→Int→Int→Nat→List T→Int→Option ((Bool) ⊕ (Unit))
 | 0,_,_,_,_,_,_,_,_,_,_,_,_,_,_=>none
 | m+1,n1,l2,n3,l4,i5,n6,l7,n8,l9,i10,i11,n12,l13,i14 =>
   br (decide (i14≤i5)) (
    gd ((decide (((0:Int)≤(IntKind.i64.wrap ((IntKind.i64.wrap ((n1:Int)+i14)) - (1:Int))))∧((IntKind.i64.wrap ((IntKind.i64.wrap ((n1:Int)+i14)) - (1:Int)))<(n6:Int))))&&(okAt [(CK.int .i64),(CK.int .i64),CK.lst] l7 (((Int.toNat (IntKind.i64.wrap ((IntKind.i64.wrap ((n1:Int)+i14)) - (1:Int)))) * 3)+0))) (
    let i15:=(iAt l7 (((Int.toNat (IntKind.i64.wrap ((IntKind.i64.wrap ((n1:Int)+i14)) - (1:Int)))) * 3)+0))
    let i16:=(iAt l7 ((((Int.toNat (IntKind.i64.wrap ((IntKind.i64.wrap ((n1:Int)+i14)) - (1:Int)))) * 3)+0)+1))
    let n17:=(nAt l7 (((((Int.toNat (IntKind.i64.wrap ((IntKind.i64.wrap ((n1:Int)+i14)) - (1:Int)))) * 3)+0)+1)+1))
    let l18:=(lAt l7 (((((Int.toNat (IntKind.i64.wrap ((IntKind.i64.wrap ((n1:Int)+i14)) - (1:Int)))) * 3)+0)+1)+1))
    br (i15 != i10) (
     some (Sum.inl false)) (
     br (i16 != (IntKind.i64.wrap (i11+(IntKind.i64.wrap (i14 * (n12:Int)))))) (
      some (Sum.inl false)) (
      bd (f39 n n17 l18 n12 l13) fun r19 =>
      let b20:=r19
      br (!b20) (
       some (Sum.inl false)) (
       f8.l2 n m n1 l2 n3 l4 i5 n6 l7 n8 l9 i10 i11 n12 l13 (IntKind.i64.wrap (i14+(1:Int)))))))) (
    some (Sum.inr ()))
termination_by structural x=>x
def f8:Nat→Nat→List T→Nat→List T→Option (Bool)
 | 0,_,_,_,_=>none
 | n+1,n1,l2,n3,l4 =>
   bd (f32 n n1 l2 n3 l4) fun r5 =>
   let b6:=r5
   br b6 (
    some true) (
    bd (f50 n n1 l2) fun r7 =>
    let n8:=r7.1
    let l9:=r7.2.1
    let n10:=r7.2.2.1
    let l11:=r7.2.2.2
    bd (f33 n n3 l4 (0:Int) (n10:Int)) fun r12 =>
    let i13:=r12
    bd (f33 n n3 l4 (1:Int) (30:Int)) fun r14 =>
    let i15:=r14
    bd (f51 n n8 l9 n10 l11 i13 i15) fun r16 =>
    let n17:=r16.1
    let l18:=r16.2.1
    let b19:=r16.2.2
    bd (f52 n n8 l9 n10 l11) fun r20 =>
    let i21:=r20.1
    let b22:=r20.2
    br (!b19) (
     some false) (
     br (!b22) (
      some false) (
      br ((n17:Int) != i15) (
       some false) (
       gd (decide ((0≤i15)∧(i15≤(2147483648:Int)))) (
       let n23:=(Int.toNat i15)
       let l24:=(reps (Int.toNat i15) [(T.flt .f32 0)])
       bd (f8.l0 n n n3 l4 n8 l9 n10 l11 i13 i15 n17 l18 i21 n23 l24 (0:Int) (n8:Int) (0:Int)) fun r25 =>
       let n26:=r25.1
       let l27:=r25.2.1
       let n28:=r25.2.2.1
       let l29:=r25.2.2.2.1
       let n30:=r25.2.2.2.2.1
       let l31:=r25.2.2.2.2.2.1
       let n32:=r25.2.2.2.2.2.2.1
       let l33:=r25.2.2.2.2.2.2.2.1
       let i34:=r25.2.2.2.2.2.2.2.2.1
       let n35:=r25.2.2.2.2.2.2.2.2.2.1
       let l36:=r25.2.2.2.2.2.2.2.2.2.2.1
       let i37:=r25.2.2.2.2.2.2.2.2.2.2.2
       bd (f39 n n35 l36 n32 l33) fun r38 =>
       let b39:=r38
       br (!b39) (
        some false) (
        br (i37 != i34) (
         some false) (
         bd (f33 n n26 l27 (2:Int) (4:Int)) fun r40 =>
         let i41:=r40
         bd (f33 n n26 l27 (3:Int) (3:Int)) fun r42 =>
         let i43:=r42
         let i44:=(IntKind.i64.wrap ((1:Int)+i43))
         bd (f53 n n28 l29 n30 l31 i41 i44) fun r45 =>
         let n46:=r45.1
         let l47:=r45.2.1
         let n48:=r45.2.2.1
         let l49:=r45.2.2.2.1
         let b50:=r45.2.2.2.2
         bd (f54 n n28 l29 n30 l31 i41 i44) fun r51 =>
         let b56:=r51.2.2.2.2
         br (!(b50==b56)) (
          some false) (
          br (!b50) (
           some true) (
           br ((n46:Int) != (IntKind.i64.wrap ((n28:Int)+i44))) (
            some false) (
            gd ((decide ((0≤i41)∧(i41<(n28:Int))))&&(okAt [(CK.int .i64),(CK.int .i64),CK.lst] l29 (((Int.toNat i41) * 3)+0))) (
            let i57:=(iAt l29 (((Int.toNat i41) * 3)+0))
            let i58:=(iAt l29 ((((Int.toNat i41) * 3)+0)+1))
            let n59:=(nAt l29 (((((Int.toNat i41) * 3)+0)+1)+1))
            let l60:=(lAt l29 (((((Int.toNat i41) * 3)+0)+1)+1))
            bd (f8.l2 n n n28 l29 n30 l31 i44 n46 l47 n48 l49 i57 i58 n59 l60 (1:Int)) fun r61 =>
            sm r61 (fun u62 =>
             let b63:=u62
             some b63) (fun u64 =>
             some true))))))))))))
def sg_llliililiiiliiii:Sig (Nat × List T × Nat × List T × Nat × List T × Int × Int × Nat × List T × Int × Nat × List T × Int × Int × Int × Nat × List T × Int × Int × Int × Int) where
 pk:=fun v=>[.lst v.1 v.2.1,.lst v.2.2.1 v.2.2.2.1,.lst v.2.2.2.2.1 v.2.2.2.2.2.1,.int v.2.2.2.2.2.2.1,.int v.2.2.2.2.2.2.2.1,.lst v.2.2.2.2.2.2.2.2.1 v.2.2.2.2.2.2.2.2.2.1,.int v.2.2.2.2.2.2.2.2.2.2.1,.lst v.2.2.2.2.2.2.2.2.2.2.2.1 v.2.2.2.2.2.2.2.2.2.2.2.2.1,.int v.2.2.2.2.2.2.2.2.2.2.2.2.2.1,.int v.2.2.2.2.2.2.2.2.2.2.2.2.2.2.1,.int v.2.2.2.2.2.2.2.2.2.2.2.2.2.2.2.1,.lst v.2.2.2.2.2.2.2.2.2.2.2.2.2.2.2.2.1 v.2.2.2.2.2.2.2.2.2.2.2.2.2.2.2.2.2.1,.int v.2.2.2.2.2.2.2.2.2.2.2.2.2.2.2.2.2.2.1,.int v.2.2.2.2.2.2.2.2.2.2.2.2.2.2.2.2.2.2.2.1,.int v.2.2.2.2.2.2.2.2.2.2.2.2.2.2.2.2.2.2.2.2.1,.int v.2.2.2.2.2.2.2.2.2.2.2.2.2.2.2.2.2.2.2.2.2]
 up:=fun ls=>match ls with
  | [.lst a0 a1,.lst a2 a3,.lst a4 a5,.int a6,.int a7,.lst a8 a9,.int a10,.lst a11 a12,.int a13,.int a14,.int a15,.lst a16 a17,.int a18,.int a19,.int a20,.int a21]=>some (a0,a1,a2,a3,a4,a5,a6,a7,a8,a9,a10,a11,a12,a13,a14,a15,a16,a17,a18,a19,a20,a21)
  | _=>none
 ok:=by intro _ _ h;split at h <;>cases h;rfl
def sg_llliililiii:Sig (Nat × List T × Nat × List T × Nat × List T × Int × Int × Nat × List T × Int × Nat × List T × Int × Int × Int) where
 pk:=fun v=>[.lst v.1 v.2.1,.lst v.2.2.1 v.2.2.2.1,.lst v.2.2.2.2.1 v.2.2.2.2.2.1,.int v.2.2.2.2.2.2.1,.int v.2.2.2.2.2.2.2.1,.lst v.2.2.2.2.2.2.2.2.1 v.2.2.2.2.2.2.2.2.2.1,.int v.2.2.2.2.2.2.2.2.2.2.1,.lst v.2.2.2.2.2.2.2.2.2.2.2.1 v.2.2.2.2.2.2.2.2.2.2.2.2.1,.int v.2.2.2.2.2.2.2.2.2.2.2.2.2.1,.int v.2.2.2.2.2.2.2.2.2.2.2.2.2.2.1,.int v.2.2.2.2.2.2.2.2.2.2.2.2.2.2.2]
 up:=fun ls=>match ls with
  | [.lst a0 a1,.lst a2 a3,.lst a4 a5,.int a6,.int a7,.lst a8 a9,.int a10,.lst a11 a12,.int a13,.int a14,.int a15]=>some (a0,a1,a2,a3,a4,a5,a6,a7,a8,a9,a10,a11,a12,a13,a14,a15)
  | _=>none
 ok:=by intro _ _ h;split at h <;>cases h;rfl
def sg_llllili:Sig (Nat × List T × Nat × List T × Nat × List T × Nat × List T × Int × Nat × List T × Int) where
 pk:=fun v=>[.lst v.1 v.2.1,.lst v.2.2.1 v.2.2.2.1,.lst v.2.2.2.2.1 v.2.2.2.2.2.1,.lst v.2.2.2.2.2.2.1 v.2.2.2.2.2.2.2.1,.int v.2.2.2.2.2.2.2.2.1,.lst v.2.2.2.2.2.2.2.2.2.1 v.2.2.2.2.2.2.2.2.2.2.1,.int v.2.2.2.2.2.2.2.2.2.2.2]
 up:=fun ls=>match ls with
  | [.lst a0 a1,.lst a2 a3,.lst a4 a5,.lst a6 a7,.int a8,.lst a9 a10,.int a11]=>some (a0,a1,a2,a3,a4,a5,a6,a7,a8,a9,a10,a11)
  | _=>none
 ok:=by intro _ _ h;split at h <;>cases h;rfl
def sg_llilliili:Sig (Nat × List T × Nat × List T × Int × Nat × List T × Nat × List T × Int × Int × Nat × List T × Int) where
 pk:=fun v=>[.lst v.1 v.2.1,.lst v.2.2.1 v.2.2.2.1,.int v.2.2.2.2.1,.lst v.2.2.2.2.2.1 v.2.2.2.2.2.2.1,.lst v.2.2.2.2.2.2.2.1 v.2.2.2.2.2.2.2.2.1,.int v.2.2.2.2.2.2.2.2.2.1,.int v.2.2.2.2.2.2.2.2.2.2.1,.lst v.2.2.2.2.2.2.2.2.2.2.2.1 v.2.2.2.2.2.2.2.2.2.2.2.2.1,.int v.2.2.2.2.2.2.2.2.2.2.2.2.2]
 up:=fun ls=>match ls with
  | [.lst a0 a1,.lst a2 a3,.int a4,.lst a5 a6,.lst a7 a8,.int a9,.int a10,.lst a11 a12,.int a13]=>some (a0,a1,a2,a3,a4,a5,a6,a7,a8,a9,a10,a11,a12,a13)
  | _=>none
 ok:=by intro _ _ h;split at h <;>cases h;rfl
def f8.l1.P:AS:=⟨[(1,qS22),(5,.box [.sl .shr [.leaf,.leaf,.sl .shr [.leaf]],.sl .shr [.sl .shr [.leaf,.leaf,.sl .shr [.leaf]],.leaf,.leaf,.leaf,.leaf]] [.lst 0 [],.lst 0 []] [] 0),(6,qS23),(7,qS23),(8,qS21),(10,qS23),(12,qS21),(13,qS23),(15,.box [.leaf,.leaf,.sl .shr [.leaf]] [.int .i64 0,.int .i64 0,.lst 0 []] [] 0),(67,qS23),(68,qS23),(86,qS23),(87,qS23)],0⟩
def f8.l1.A:Alt (Nat × List T × Nat × List T × Nat × List T × Int × Int × Nat × List T × Int × Nat × List T × Int × Int × Int):=.one (.exit 2) ⟨[(1,qS22),(5,.box [.sl .shr [.leaf,.leaf,.sl .shr [.leaf]],.sl .shr [.sl .shr [.leaf,.leaf,.sl .shr [.leaf]],.leaf,.leaf,.leaf,.leaf]] [.lst 0 [],.lst 0 []] [] 0),(6,qS23),(7,qS23),(8,qS21),(10,qS23),(12,qS21),(13,qS23),(67,qS23),(68,qS23),(114,.dead),(115,.dead)],0⟩ sg_llliililiii
def f8.l1.F (n m:Nat) (v:Nat × List T × Nat × List T × Nat × List T × Int × Int × Nat × List T × Int × Nat × List T × Int × Int × Int × Nat × List T × Int × Int × Int × Int):=f8.l1 n m v.1 v.2.1 v.2.2.1 v.2.2.2.1 v.2.2.2.2.1 v.2.2.2.2.2.1 v.2.2.2.2.2.2.1 v.2.2.2.2.2.2.2.1 v.2.2.2.2.2.2.2.2.1 v.2.2.2.2.2.2.2.2.2.1 v.2.2.2.2.2.2.2.2.2.2.1 v.2.2.2.2.2.2.2.2.2.2.2.1 v.2.2.2.2.2.2.2.2.2.2.2.2.1 v.2.2.2.2.2.2.2.2.2.2.2.2.2.1 v.2.2.2.2.2.2.2.2.2.2.2.2.2.2.1 v.2.2.2.2.2.2.2.2.2.2.2.2.2.2.2.1 v.2.2.2.2.2.2.2.2.2.2.2.2.2.2.2.2.1 v.2.2.2.2.2.2.2.2.2.2.2.2.2.2.2.2.2.1 v.2.2.2.2.2.2.2.2.2.2.2.2.2.2.2.2.2.2.1 v.2.2.2.2.2.2.2.2.2.2.2.2.2.2.2.2.2.2.2.1 v.2.2.2.2.2.2.2.2.2.2.2.2.2.2.2.2.2.2.2.2.1 v.2.2.2.2.2.2.2.2.2.2.2.2.2.2.2.2.2.2.2.2.2
def f8.l1.W (n:Nat):LpW:=.of 288 f8.l1.P sg_llliililiiiliiii f8.l1.A (f8.l1.F n n)
def f8.l0.P:AS:=⟨[(1,qS22),(5,.box [.sl .shr [.leaf,.leaf,.sl .shr [.leaf]],.sl .shr [.sl .shr [.leaf,.leaf,.sl .shr [.leaf]],.leaf,.leaf,.leaf,.leaf]] [.lst 0 [],.lst 0 []] [] 0),(6,qS23),(7,qS23),(8,qS21),(10,qS23),(12,qS21),(13,qS23),(67,qS23),(68,qS23)],0⟩
def f8.l0.A:Alt (Nat × List T × Nat × List T × Nat × List T × Nat × List T × Int × Nat × List T × Int):=.one (.exit 0) ⟨[(1,qS22),(5,.box [.sl .shr [.leaf,.leaf,.sl .shr [.leaf]],.sl .shr [.sl .shr [.leaf,.leaf,.sl .shr [.leaf]],.leaf,.leaf,.leaf,.leaf]] [.lst 0 [],.lst 0 []] [] 0),(8,qS21),(10,qS23),(12,qS21),(13,qS23)],0⟩ sg_llllili
def f8.l0.F (n m:Nat) (v:Nat × List T × Nat × List T × Nat × List T × Int × Int × Nat × List T × Int × Nat × List T × Int × Int × Int):=f8.l0 n m v.1 v.2.1 v.2.2.1 v.2.2.2.1 v.2.2.2.2.1 v.2.2.2.2.2.1 v.2.2.2.2.2.2.1 v.2.2.2.2.2.2.2.1 v.2.2.2.2.2.2.2.2.1 v.2.2.2.2.2.2.2.2.2.1 v.2.2.2.2.2.2.2.2.2.2.1 v.2.2.2.2.2.2.2.2.2.2.2.1 v.2.2.2.2.2.2.2.2.2.2.2.2.1 v.2.2.2.2.2.2.2.2.2.2.2.2.2.1 v.2.2.2.2.2.2.2.2.2.2.2.2.2.2.1 v.2.2.2.2.2.2.2.2.2.2.2.2.2.2.2
def f8.l0.W (n:Nat):LpW:=.of 208 f8.l0.P sg_llliililiii f8.l0.A (f8.l0.F n n)
def f8.l2.P:AS:=⟨[(5,.box [.sl .shr [.leaf,.leaf,.sl .shr [.leaf]],.sl .shr [.sl .shr [.leaf,.leaf,.sl .shr [.leaf]],.leaf,.leaf,.leaf,.leaf]] [.lst 0 [],.lst 0 []] [] 0),(19,qS23),(20,.box [.sl .shr [.leaf,.leaf,.sl .shr [.leaf]],.sl .shr [.sl .shr [.leaf,.leaf,.sl .shr [.leaf]],.leaf,.leaf,.leaf,.leaf]] [.lst 0 [],.lst 0 []] [] 0),(24,.box [.leaf,.leaf,.sl .shr [.leaf]] [.int .i64 0,.int .i64 0,.lst 0 []] [] 0),(25,qS23)],0⟩
def f8.l2.A:Alt ((Bool) ⊕ (Unit)):=.or (.one .ret ⟨[(4,qS24)],0⟩ sg_b) (.one (.exit 4) ⟨[(4,.dead)],0⟩ sg)
def f8.l2.F (n m:Nat) (v:Nat × List T × Nat × List T × Int × Nat × List T × Nat × List T × Int × Int × Nat × List T × Int):=f8.l2 n m v.1 v.2.1 v.2.2.1 v.2.2.2.1 v.2.2.2.2.1 v.2.2.2.2.2.1 v.2.2.2.2.2.2.1 v.2.2.2.2.2.2.2.1 v.2.2.2.2.2.2.2.2.1 v.2.2.2.2.2.2.2.2.2.1 v.2.2.2.2.2.2.2.2.2.2.1 v.2.2.2.2.2.2.2.2.2.2.2.1 v.2.2.2.2.2.2.2.2.2.2.2.2.1 v.2.2.2.2.2.2.2.2.2.2.2.2.2
def f8.l2.W (n:Nat):LpW:=.of 624 f8.l2.P sg_llilliili f8.l2.A (f8.l2.F n n)
def f8.P:List Arg:=[qA12,qA12]
def f8.A:RAlt (Bool):=.one ⟨[qV8],[none,none]⟩ sg_b
def f8.F (n:Nat) (v:Nat × List T × Nat × List T):=f8 n v.1 v.2.1 v.2.2.1 v.2.2.2
def f8.O (n:Nat):Orc:=orcOf (E:=E) [f32.w,f50.w,f33.w,f51.w,f52.w,f39.w,f53.w,f54.w] [f8.l1.W n,f8.l0.W n,f8.l2.W n] n
theorem f8.l1.ok:∀ n,LpS 8 c8 1 n (f8.O n):=lpS f8.l1.P sg_llliililiiiliiii f8.l1.A f8.l1.F
theorem f8.l0.ok:∀ n,LpS 8 c8 0 n (f8.O n):=lpS f8.l0.P sg_llliililiii f8.l0.A f8.l0.F [loopAt c8 1] (fun n=>(.cons (f8.l1.ok n) .nil))
theorem f8.l2.ok:∀ n,LpS 8 c8 2 n (f8.O n):=lpS f8.l2.P sg_llilliili f8.l2.A f8.l2.F
theorem f8.ok:FnS 8 f8.P sg_ll f8.A f8.F:=fnS c8 f8.O [loopAt c8 0,loopAt c8 2] (fun n=>(.cons (f8.l0.ok n) (.cons (f8.l2.ok n) .nil)))
def f8.w:FnW E:=fnW 8 f8.P sg_ll f8.A f8.F f8.ok
end Go.Proofs.Ytdobhipbgpiceaa.D
end
section
namespace Go.Proofs.Ytdobhipbgpiceaa.D
open Go Go.Desk
set_option linter.unusedVariables false
theorem l_long10 (n:Nat) (bs cs:List Int):f32 (n+1) bs.length (its .u8 bs) cs.length (its .u8 cs)=some (decide (1048576<bs.length∨1048576<cs.length)):=by
 rw[f32]
 by_cases h:1048576<bs.length
 ·rw[decide_eq_true (show (bs.length:Int)>1048576 by omega),decide_eq_true (Or.inl h)];rfl
 ·rw[decide_eq_false (show ¬ (bs.length:Int)>1048576 by omega),br_f]
  congr 1
  simp[h];omega
theorem l_at10 (n:Nat) {bs:List Int} (hb:Bytes bs) {i k:Int} (hi:0≤i) (hi2:i≤1000000) (hk:1≤k):∃ r,(0≤r∧r<k)∧f33 (n+1) bs.length (its .u8 bs) i k=some r:=by
 rw[f33]
 by_cases h:k≤1
 ·rw[decide_eq_true h];exact ⟨0,by omega,rfl⟩
 rw[decide_eq_false h]
 have hk0:(!decide (k=0))=true:=by simp;omega
 by_cases h2:i<(bs.length:Int)
 ·rw[decide_eq_true h2]
  obtain ⟨i,rfl⟩:=Int.eq_ofNat_of_zero_le hi
  have hi:i<bs.length:=by omega
  have hr:=hb (bs[i]) (List.getElem_mem _)
  simp only[br_f,br_t,in_dec hi,Int.toNat_natCast,okAt_its hi,Bool.and_self,gd_t,iAt_its,hk0]
  rw[show bs.getD i 0=bs[i] by simp[List.getD,hi],show IntKind.i64.wrap bs[i]=bs[i] by rw[wrap64] <;>omega]
  refine ⟨_,?_,rfl⟩
  rw[Int.tmod_eq_emod_of_nonneg (by omega)]
  have:=Int.emod_nonneg bs[i] (show k≠0 by omega)
  have:=Int.emod_lt_of_pos bs[i] (show 0<k by omega)
  omega
 ·rw[decide_eq_false h2]
  simp only[br_f,hk0,gd_t]
  rw[show IntKind.i64.wrap (i * 37)=i * 37 by rw[wrap64] <;>omega,show IntKind.i64.wrap (i * 37+11)=i * 37+11 by rw[wrap64] <;>omega]
  refine ⟨_,?_,rfl⟩
  rw[Int.tmod_eq_emod_of_nonneg (by omega)]
  have:=Int.emod_nonneg (i * 37+11) (show k≠0 by omega)
  have:=Int.emod_lt_of_pos (i * 37+11) (show 0<k by omega)
  omega
theorem s_bits (n:Nat) {x:Nat} (h:W32 x):f140 (n+2) x=some (x:Int):=by
 rw[f140,fne_nan]
 cases hn:isNaN .f32 x
 ·have:xF32bits (n+1) x=some (x:Int):=by simp[xF32bits,hn]
  have hx:=h.1
  simp only[br_f,this,bd_s]
  rw[wrap64] <;>omega
 ·rw[br_t,← h.2,canon_nan hn];rfl
theorem s_same1 (n:Nat) {x y:Nat} (hx:W32 x) (hy:W32 y):f92 (n+3) x y=some (x==y):=by
 rw[f92,s_bits n hx]
 simp only[bd_s,s_bits n hy]
 congr 1
 rw[Bool.eq_iff_iff];simp;constructor <;>omega
theorem s_same (n:Nat) {x y:Nat} (hx:W32 x) (hy:W32 y):f41 (n+4) x y=some (x==y):=by
 rw[f41,s_same1 n hx hy];rfl
theorem l_same10_loop (n:Nat):∀ (zs ys p q:List Nat) (m:Nat),ys.length=zs.length→p.length=q.length→(∀ x∈zs,W32 x)→(∀ x∈ys,W32 x)→p.length+zs.length≤1048576→zs.length<m →
  f39.l0 (n+4) m (p++zs).length (fls .f32 (p++zs)) (q++ys).length (fls .f32 (q++ys)) (p.length:Int)=some (if zs=ys then .inr () else .inl false):=by
 intro zs
 induction zs with
 | nil =>
   intro ys p q m hl hpq _ _ _ hm
   obtain ⟨m,rfl⟩:∃ k,m=k+1:=⟨m - 1,by omega⟩
   obtain rfl:ys=[]:=List.length_eq_zero_iff.1 (by simpa using hl)
   rw[f39.l0,lt_end]
   rfl
 | cons z zs ih =>
   intro ys p q m hl hpq hz hy hb hm
   obtain ⟨m,rfl⟩:∃ k,m=k+1:=⟨m - 1,by omega⟩
   cases ys with
   | nil=>simp at hl
   | cons y ys =>
     rw[f39.l0,lt_mid,in_mid]
     simp only[hpq,in_mid,toNat_len,okAt_mid]
     rw[← hpq]
     simp only[okAt_mid,fAt_mid,Bool.and_self,gd_t,br_t]
     rw[hpq]
     simp only[fAt_mid]
     rw[s_same n (hz z (by simp)) (hy y (by simp)),← hpq]
     simp only[bd_s,br_not]
     cases h:z==y
     ·simp only[beq_eq_false_iff_ne,ne_eq] at h
      simp[br_f,h]
     ·simp only[beq_iff_eq] at h
      subst h
      rw[br_t,wrap_len (z:=z) (by simp at hb;omega)]
      have:=ih ys (p++[z]) (q++[z]) m (by simpa using hl) (by simp[hpq]) (fun x hx=>hz x (by simp[hx])) (fun x hx=>hy x (by simp[hx])) (by simp at hb ⊢;omega) (by simp at hm;omega)
      simpa using this
theorem l_same10 (n:Nat) (xs ys:List Nat) (hx:∀ x∈xs,W32 x) (hy:∀ x∈ys,W32 x) (hl:xs.length≤1048576) (hn:xs.length<n):f39 (n+5) xs.length (fls .f32 xs) ys.length (fls .f32 ys)=some (decide (xs=ys)):=by
 rw[f39]
 by_cases h:ys.length=xs.length
 ·rw[show (((xs.length:Nat):Int) != ((ys.length:Nat):Int))=false by simp[h],br_f]
  have:=l_same10_loop n xs ys [] [] (n+4) h rfl hx hy (by simpa using hl) (by omega)
  simp only[List.nil_append,List.length_nil] at this
  rw[show ((0:Nat):Int)=0 from rfl] at this
  rw[this,bd_s]
  by_cases e:xs=ys
  ·rw[if_pos e,decide_eq_true e];rfl
  ·rw[if_neg e,decide_eq_false e];rfl
 ·rw[show (((xs.length:Nat):Int) != ((ys.length:Nat):Int))=true by simp;omega,decide_eq_false (fun e=>h (by rw[e]))]
  rfl
theorem s_from (n l:Nat) (c:List T):f64 (n+1) l c=some (l,c,0,0):=by rw[f64]
theorem s_next (n:Nat) {bs:List Int} (hb:Bytes bs) {a:Int} (h0:0≤a) (h1:a≤1125899906842624) (sd:Int) :
  ∃ r sd',(0≤r∧r≤255)∧f134 (n+1) bs.length (its .u8 bs) a sd=some (r,bs.length,its .u8 bs,a+1,sd'):=by
 rw[f134]
 rw[show IntKind.i64.wrap (a+1)=a+1 by rw[wrap64] <;>omega]
 cases h:decide (a<(bs.length:Int))
 ·simp only[br_f]
  cases decide (a+1≤(bs.length:Int))
  ·exact ⟨_,_,and255 _,rfl⟩
  ·exact ⟨0,_,by omega,rfl⟩
 ·simp only[decide_eq_true_eq] at h
  obtain ⟨i,rfl⟩:=Int.eq_ofNat_of_zero_le h0
  have hi:i<bs.length:=by omega
  have hr:=hb (bs[i]) (List.getElem_mem _)
  simp only[br_t,in_dec hi,Int.toNat_natCast,okAt_its hi,Bool.and_self,gd_t,iAt_its]
  rw[show bs.getD i 0=bs[i] by simp[List.getD,hi],show IntKind.i64.wrap bs[i]=bs[i] by rw[wrap64] <;>omega]
  cases decide ((i:Int)+1≤(bs.length:Int))
  ·exact ⟨_,_,and255 _,rfl⟩
  ·exact ⟨_,_,hr,rfl⟩
theorem s_pick (n:Nat) {bs:List Int} (hb:Bytes bs) {a:Int} (h0:0≤a) (h1:a≤1125899906842622) (sd k:Int) :
  ∃ r a' sd',(0≤r∧(1<k→r<k)∧(k≤1→r=0))∧(a≤a'∧a'≤a+2)∧f74 (n+2) bs.length (its .u8 bs) a sd k=some (r,bs.length,its .u8 bs,a',sd'):=by
 rw[f74]
 by_cases hk:k≤1
 ·rw[decide_eq_true hk];exact ⟨0,a,sd,by omega,by omega,rfl⟩
 rw[decide_eq_false hk]
 obtain ⟨r,s1,hr,e1⟩:=s_next n hb h0 (by omega) sd
 simp only[br_f,e1,bd_s]
 have hk0:(!decide (k=0))=true:=by simp;omega
 by_cases hk2:k>200
 ·rw[decide_eq_true hk2]
  obtain ⟨r',s2,hr',e2⟩:=s_next n hb (a:=a+1) (by omega) (by omega) s1
  simp only[br_t,e2,bd_s,hk0,gd_t]
  rw[show IntKind.i64.wrap (r * 256)=r * 256 by rw[wrap64] <;>omega,show IntKind.i64.wrap (r * 256+r')=r * 256+r' by rw[wrap64] <;>omega]
  refine ⟨_,_,_,?_,?_,rfl⟩
  ·rw[Int.tmod_eq_emod_of_nonneg (by omega)]
   have:=Int.emod_nonneg (r * 256+r') (show k≠0 by omega)
   have:=Int.emod_lt_of_pos (r * 256+r') (show 0<k by omega)
   omega
  ·omega
 ·rw[decide_eq_false hk2]
  simp only[br_f,hk0,gd_t]
  refine ⟨_,_,_,?_,?_,rfl⟩
  ·rw[Int.tmod_eq_emod_of_nonneg (by omega)]
   have:=Int.emod_nonneg r (show k≠0 by omega)
   have:=Int.emod_lt_of_pos r (show 0<k by omega)
   omega
  ·omega
theorem s_one (n:Nat) {bs:List Int} (hb:Bytes bs) {a:Int} (h0:0≤a) (h1:a≤1125899906842622) (sd k:Int) :
  ∃ r a' sd',(a≤a'∧a'≤a+2)∧f130 (n+3) bs.length (its .u8 bs) a sd k=some (r,bs.length,its .u8 bs,a',sd'):=by
 obtain ⟨r,a',s',-,ha,e⟩:=s_pick n hb h0 h1 sd k
 rw[f130,e]
 exact ⟨_,_,_,ha,rfl⟩
theorem s_plain (n:Nat) {bs:List Int} (hb:Bytes bs) {a:Int} (h0:0≤a) (h1:a≤1125899906842620) (sd:Int) :
  ∃ x a' sd',Plain x∧(a≤a'∧a'≤a+4)∧f65 (n+4) bs.length (its .u8 bs) a sd=some (x,bs.length,its .u8 bs,a',sd'):=by
 obtain ⟨r,a1,s1,hr,ha,e⟩:=s_pick (n+1) hb h0 (by omega) sd 129
 obtain ⟨b,a2,s2,ha2,e2⟩:=s_one n hb (a:=a1) (by omega) (by omega) s1 4
 rw[f65,e]
 simp only[bd_s,e2]
 rw[show IntKind.i64.wrap (r - 64)=r - 64 by rw[wrap64] <;>omega]
 cases b
 ·exact ⟨_,a2,s2,⟨r - 64,by omega,.inr rfl⟩,by omega,rfl⟩
 ·exact ⟨_,a2,s2,⟨r - 64,by omega,.inl rfl⟩,by omega,rfl⟩
theorem s_among (n:Nat) {bs:List Int} (hb:Bytes bs) {a:Int} (h0:0≤a) (h1:a≤1125899906842622) (sd:Int) (L:List Int) (hL:0<L.length) :
  ∃ r a' sd',r∈L∧(a≤a'∧a'≤a+2)∧f139 (n+3) bs.length (its .u8 bs) a sd L.length (its .i64 L)=some (r,bs.length,its .u8 bs,a',sd',L.length,its .i64 L):=by
 obtain ⟨r,a1,s1,hr,ha,e⟩:=s_pick n hb h0 h1 sd (L.length:Int)
 rw[f139,e]
 obtain ⟨i,rfl⟩:=Int.eq_ofNat_of_zero_le hr.1
 have hi:i<L.length:=by
  by_cases h:(L.length:Int)≤1
  ·have:=hr.2.2 h;omega
  ·have:=hr.2.1 (by omega);omega
 simp only[bd_s,in_dec hi,Int.toNat_natCast,okAt_its hi,Bool.and_self,gd_t,iAt_its]
 refine ⟨_,_,_,?_,ha,rfl⟩
 rw[show L.getD i 0=L[i] by simp[List.getD,hi]]
 exact List.getElem_mem _
theorem s_from32 (n:Nat) {i:Int} (h0:0≤i) (h1:i<4294967296):∃ x,W32 x∧f138 (n+2) i=some x:=by
 rw[f138]
 refine ⟨canon .f32 i.toNat,w32_canon (by omega),?_⟩
 rw[u32_wrap h0 h1]
 show bd (if 0≤i then some (canon .f32 i.toNat) else none) _=_
 rw[if_pos h0];rfl
theorem s_float (n:Nat) {bs:List Int} (hb:Bytes bs) {a:Int} (h0:0≤a) (h1:a≤1125899906842600) (sd:Int) :
  ∃ x a' sd',W32 x∧(a≤a'∧a'≤a+16)∧f86 (n+5) bs.length (its .u8 bs) a sd=some (x,bs.length,its .u8 bs,a',sd'):=by
 obtain ⟨b,a1,s1,ha1,e1⟩:=s_one (n+1) hb h0 (by omega) sd 12
 rw[f86,e1]
 simp only[bd_s,br_not]
 cases b
 ·obtain ⟨x,a2,s2,hx,ha2,e2⟩:=s_plain n hb (a:=a1) (by omega) (by omega) s1
  simp only[br_f,e2,bd_s]
  exact ⟨_,_,_,hx.w32,by omega,rfl⟩
 obtain ⟨q,a2,s2,-,ha2,e2⟩:=s_pick (n+2) hb (a:=a1) (by omega) (by omega) s1 4
 simp only[br_t,e2,bd_s]
 cases q==0
 case true =>
  obtain ⟨r,a3,s3,hr,ha3,e3⟩:=s_among (n+1) hb (a:=a2) (by omega) (by omega) s2 [0,2147483648,2139095040,4286578688,2143289344,1,2139095039,8388608,8388607,2147483649] (by decide)
  have hr':0≤r∧r<4294967296:=by simp only[List.mem_cons,List.not_mem_nil,or_false] at hr;omega
  obtain ⟨x,hx,e4⟩:=s_from32 (n+2) hr'.1 hr'.2
  rw[br_t]
  refine ⟨x,a3,s3,hx,by omega,?_⟩
  refine Eq.trans (congrArg (fun o=>bd o _) e3) ?_
  simp only[bd_s,e4]
 cases q==1
 case true =>
  obtain ⟨r,a3,s3,hr,ha3,e3⟩:=s_pick (n+2) hb (a:=a2) (by omega) (by omega) s2 65536
  obtain ⟨r',a4,s4,hr',ha4,e4⟩:=s_pick (n+2) hb (a:=a3) (by omega) (by omega) s3 65536
  obtain ⟨x,hx,e5⟩:=s_from32 (n+2) (i:=r * 65536+r') (by omega) (by omega)
  simp only[br_f,br_t,e3,e4,bd_s]
  rw[show IntKind.i64.wrap (r * 65536)=r * 65536 by rw[wrap64] <;>omega,show IntKind.i64.wrap (r * 65536+r')=r * 65536+r' by rw[wrap64] <;>omega,e5]
  exact ⟨x,_,_,hx,by omega,rfl⟩
 cases q==2
 case true =>
  obtain ⟨r,a3,s3,hr,ha3,e3⟩:=s_pick (n+2) hb (a:=a2) (by omega) (by omega) s2 65536
  obtain ⟨x,hx,e5⟩:=s_from32 (n+2) (i:=r * 65536) (by omega) (by omega)
  simp only[br_f,br_t,e3,bd_s]
  rw[show IntKind.i64.wrap (r * 65536)=r * 65536 by rw[wrap64] <;>omega,e5]
  exact ⟨x,_,_,hx,by omega,rfl⟩
 obtain ⟨x,a3,s3,hx,ha3,e3⟩:=s_plain n hb (a:=a2) (by omega) (by omega) s2
 obtain ⟨r,a4,s4,hr,ha4,e4⟩:=s_among (n+1) hb (a:=a3) (by omega) (by omega) s3 [8388608,2130706432,1610612736,536870912] (by decide)
 have hr':0≤r∧r<4294967296:=by simp only[List.mem_cons,List.not_mem_nil,or_false] at hr;omega
 obtain ⟨y,hy,e5⟩:=s_from32 (n+2) hr'.1 hr'.2
 simp only[br_f,e3,bd_s]
 refine ⟨_,a4,s4,w32_fmul x y,by omega,?_⟩
 refine Eq.trans (congrArg (fun o=>bd o _) e4) ?_
 simp only[bd_s,e5]
theorem s_floats_loop (n:Nat) {bs:List Int} (hb:Bytes bs) (str:Bool):∀ (j m:Nat) (a sd:Int) (acc:List Nat),0≤a→a+16 * (j:Int)≤1125899906842000→acc.length+j≤2147483647→j<m→(∀ x∈acc,W32 x) →
  ∃ ys a' sd',ys.length=acc.length+j∧(∀ x∈ys,W32 x)∧(a≤a'∧a'≤a+16 * (j:Int)) ∧
   f73.l0 (n+5) m bs.length (its .u8 bs) a sd (j:Int) acc.length (fls .f32 acc) str=some (bs.length,its .u8 bs,a',sd',ys.length,fls .f32 ys):=by
 intro j
 induction j with
 | zero =>
   intro m a sd acc h0 h1 hl hm hw
   obtain ⟨m,rfl⟩:∃ k,m=k+1:=⟨m - 1,by omega⟩
   rw[f73.l0]
   exact ⟨acc,a,sd,by omega,hw,by omega,rfl⟩
 | succ j ih =>
   intro m a sd acc h0 h1 hl hm hw
   obtain ⟨m,rfl⟩:∃ k,m=k+1:=⟨m - 1,by omega⟩
   rw[f73.l0,decide_eq_true (show (((j+1:Nat):Int)>0) by omega),show IntKind.i64.wrap (((j+1:Nat):Int) - 1)=(j:Int) by rw[wrap64] <;>omega]
   have key:∀ x a1 s1,W32 x→a≤a1→a1≤a+16→∃ ys a' sd',ys.length=acc.length+(j+1)∧(∀ x∈ys,W32 x)∧(a≤a'∧a'≤a+16 * ((j+1:Nat):Int)) ∧
     f73.l0 (n+5) m bs.length (its .u8 bs) a1 s1 (j:Int) (acc++[x]).length (fls .f32 (acc++[x])) str=some (bs.length,its .u8 bs,a',sd',ys.length,fls .f32 ys):=by
    intro x a1 s1 hx h2 h3
    obtain ⟨ys,a',sd',hy,hyw,ha,e⟩:=ih m a1 s1 (acc++[x]) (by omega) (by omega) (by simp;omega) (by omega) (by
     intro y hy;simp only[List.mem_append,List.mem_singleton] at hy;rcases hy with hy | rfl
     ·exact hw y hy
     ·exact hx)
    exact ⟨ys,a',sd',by simp at hy;omega,hyw,by omega,e⟩
   simp only[br_t]
   cases str
   ·obtain ⟨x,a1,s1,hx,ha,e⟩:=s_plain (n+1) hb h0 (by omega) sd
    simp only[br_f,e,bd_s,push_ok (show acc.length<2147483648 by omega),gd_t,push_fls]
    rw[show acc.length+1=(acc++[x]).length by simp]
    exact key x a1 s1 hx.w32 (by omega) (by omega)
   ·obtain ⟨x,a1,s1,hx,ha,e⟩:=s_float n hb h0 (by omega) sd
    simp only[br_t,e,bd_s,push_ok (show acc.length<2147483648 by omega),gd_t,push_fls]
    rw[show acc.length+1=(acc++[x]).length by simp]
    exact key x a1 s1 hx (by omega) (by omega)
theorem s_floats (n:Nat) {bs:List Int} (hb:Bytes bs) {a:Int} (h0:0≤a) (j:Nat) (h1:a+16 * (j:Int)≤1125899906841000) (hj:j≤2147483647) (hn:j<n) (sd:Int) :
  ∃ ys a' sd',ys.length=j∧(∀ x∈ys,W32 x)∧(a≤a'∧a'≤a+2+16 * (j:Int))∧f73 (n+6) bs.length (its .u8 bs) a sd (j:Int)=some (ys.length,fls .f32 ys,bs.length,its .u8 bs,a',sd'):=by
 obtain ⟨b,a1,s1,ha1,e1⟩:=s_one (n+2) hb h0 (by omega) sd 4
 obtain ⟨ys,a2,s2,hy,hw,ha2,e2⟩:=s_floats_loop n hb b j (n+5) a1 s1 [] (by omega) (by omega) (by simp;omega) (by omega) (by simp)
 rw[f73,e1]
 refine ⟨ys,a2,s2,by simpa using hy,hw,by omega,?_⟩
 have e2:f73.l0 (n+5) (n+5) bs.length (its .u8 bs) a1 s1 (j:Int) 0 (reps 0 [(T.flt FloatKind.f32 0)]) b=some (bs.length,its .u8 bs,a2,s2,ys.length,fls .f32 ys):=e2
 simp only[bd_s,e2]
theorem s_few (n k:Nat) (l:List T):f148 (n+1) k l=some (decide ((k:Int)≤256)):=by rw[f148]
theorem i_few (n k:Nat) (l:List T):f66 (n+1) k l=some (decide ((k:Int)≤256)):=by rw[f66]
theorem s_in (n:Nat) (a b c:Int):f106 (n+1) a b c=some (decide (b≤a∧a≤c)):=by
 rw[f106]
 by_cases h:b≤a <;>simp[br,h]
theorem i_in (n:Nat) (a b c:Int):f67 (n+1) a b c=some (decide (b≤a∧a≤c)):=by
 rw[f67]
 by_cases h:b≤a <;>simp[br,h]
theorem s_fnumber (n:Nat) {bs:List Int} (hb:Bytes bs) {a:Int} (h0:0≤a) (h1:a≤1125899906842500) (sd:Int) :
  ∃ x a' sd',W32 x∧(a≤a'∧a'≤a+20)∧f141 (n+6) bs.length (its .u8 bs) a sd=some (x,bs.length,its .u8 bs,a',sd'):=by
 obtain ⟨b,a1,s1,ha1,e1⟩:=s_one (n+2) hb h0 (by omega) sd 8
 rw[f141,e1]
 simp only[bd_s]
 cases b
 ·obtain ⟨c,a2,s2,ha2,e2⟩:=s_one (n+2) hb (a:=a1) (by omega) (by omega) s1 3
  simp only[br_f,e2,bd_s]
  cases c
  ·obtain ⟨r,a3,s3,hr,ha3,e3⟩:=s_pick (n+3) hb (a:=a2) (by omega) (by omega) s2 33
   simp only[br_f,e3,bd_s]
   exact ⟨_,a3,s3,w32_fdiv _ _,by omega,rfl⟩
  ·exact ⟨0,a2,s2,w32_zero,by omega,rfl⟩
 ·obtain ⟨x,a2,s2,hx,ha2,e2⟩:=s_float n hb (a:=a1) (by omega) (by omega) s1
  simp only[br_t,e2,bd_s]
  exact ⟨x,a2,s2,hx,by omega,rfl⟩
theorem s_filter (n:Nat) {bs:List Int} (hb:Bytes bs) {a:Int} (h0:0≤a) (h1:a≤1125899906842000) (sd:Int) :
  ∃ (f:Filt) (a' sd':Int),(W32 f.1∧W32 f.2.1∧W32 f.2.2.1∧W32 f.2.2.2.1∧W32 f.2.2.2.2)∧(a≤a'∧a'≤a+200)∧f93 (n+7) bs.length (its .u8 bs) a sd=some (f.1,f.2.1,f.2.2.1,f.2.2.2.1,f.2.2.2.2,bs.length,its .u8 bs,a',sd'):=by
 obtain ⟨x1,a1,s1,w1,ha1,e1⟩:=s_fnumber n hb h0 (by omega) sd
 obtain ⟨x2,a2,s2,w2,ha2,e2⟩:=s_fnumber n hb (a:=a1) (by omega) (by omega) s1
 obtain ⟨x3,a3,s3,w3,ha3,e3⟩:=s_fnumber n hb (a:=a2) (by omega) (by omega) s2
 obtain ⟨r4,a4,s4,-,ha4,e4⟩:=s_pick (n+4) hb (a:=a3) (by omega) (by omega) s3 15
 obtain ⟨r5,a5,s5,-,ha5,e5⟩:=s_pick (n+4) hb (a:=a4) (by omega) (by omega) s4 7
 obtain ⟨b6,a6,s6,ha6,e6⟩:=s_one (n+3) hb (a:=a5) (by omega) (by omega) s5 4
 rw[f93,e1]
 simp only[bd_s,e2,e3,e4,e5,e6]
 cases b6
 ·obtain ⟨b7,a7,s7,ha7,e7⟩:=s_one (n+3) hb (a:=a6) (by omega) (by omega) s6 4
  simp only[br_f,e7,bd_s]
  cases b7
  ·exact ⟨(x1,x2,x3,_,_),a7,s7,⟨w1,w2,w3,w32_fdiv _ _,w32_fdiv _ _⟩,by omega,rfl⟩
  ·obtain ⟨x8,a8,s8,w8,ha8,e8⟩:=s_fnumber n hb (a:=a7) (by omega) (by omega) s7
   simp only[br_t,e8,bd_s]
   exact ⟨(x1,x2,x3,_,x8),a8,s8,⟨w1,w2,w3,w32_fdiv _ _,w8⟩,by omega,rfl⟩
 ·obtain ⟨x7,a7,s7,w7,ha7,e7⟩:=s_fnumber n hb (a:=a6) (by omega) (by omega) s6
  obtain ⟨b8,a8,s8,ha8,e8⟩:=s_one (n+3) hb (a:=a7) (by omega) (by omega) s7 4
  simp only[br_t,e7,e8,bd_s]
  cases b8
  ·exact ⟨(x1,x2,x3,x7,_),a8,s8,⟨w1,w2,w3,w7,w32_fdiv _ _⟩,by omega,rfl⟩
  ·obtain ⟨x9,a9,s9,w9,ha9,e9⟩:=s_fnumber n hb (a:=a8) (by omega) (by omega) s8
   simp only[br_t,e9,bd_s]
   exact ⟨(x1,x2,x3,x7,x9),a9,s9,⟨w1,w2,w3,w7,w9⟩,by omega,rfl⟩
theorem i_zeroed (n k:Nat) (h:k≤2147483648):f91 (n+1) (k:Int)=some (k,fls .f32 (List.replicate k 0)):=by
 rw[f91,decide_eq_true (show (0:Int)≤(k:Int)∧(k:Int)≤2147483648 by omega),gd_t,Int.toNat_natCast,reps_fls]
theorem i_copy (n:Nat) (xs:List Nat) (h:xs.length≤2147483648):f84 (n+1) xs.length (fls .f32 xs)=some (xs.length,fls .f32 xs):=by
 rw[f84,Nat.zero_add,le_ble h];rfl
theorem i_sized (n:Nat) (x:Int):f87 (n+1) x=some x:=by rw[f87]
theorem i_finite (n:Nat) (x:Nat):f174 (n+1) x=some (fin32 x):=by rw[f174,sub_finite]
def peakM (m:Nat) (xs:List Nat):Nat:=xs.foldl (fun m x=>if fgt .f32 (size32 x) m then size32 x else m) m
def clipM (lim x:Nat):Nat:=if fgt .f32 (size32 x) lim then (if flt .f32 x 0 then negF .f32 lim else lim) else x
def limT (lim p:Nat):Nat:=if fgt .f32 p lim then fdiv .f32 lim p else 1065353216
def limG (t gn:Nat):Nat:=if flt .f32 t gn then t else if fne .f32 gn gn then t else gn
def limStep (lim rise:Nat) (s:Nat × List Nat) (x:Nat):Nat × (Nat × List Nat) :=
 (clipM lim (fmul .f32 ((s.2++[x]).getD 0 0) (limG (limT lim (peakM 0 (s.2++[x]))) (fadd .f32 s.1 rise))),(limG (limT lim (peakM 0 (s.2++[x]))) (fadd .f32 s.1 rise),(s.2++[x]).drop 1))
theorem i_islimit (n:Nat) (lim:Nat):f137 (n+2) lim=some (fin32 lim&&fgt .f32 lim 0):=by
 rw[f137,i_finite]
 cases fin32 lim <;>rfl
structure Eff where
 kind:Int
 len:Int
 nums:List Nat
def effC (e:Eff):List T:=[.int .i64 e.kind,.int .i64 e.len,.lst e.nums.length (fls .f32 e.nums)]
def effs (es:List Eff):List T:=es.flatMap effC
def eAt (es:List Eff) (i:Nat):Eff:=es.getD i ⟨5,0,[]⟩
theorem eff_get {c:Nat} (hc:c<3):∀ (ts:List Eff) (i:Nat),i<ts.length→(effs ts)[i * 3+c]?=(effC (eAt ts i))[c]?
 | [],i,h=>by simp at h
 | t::ts,0,_=>by
   show (effC t++effs ts)[0 * 3+c]?=_
   rw[List.getElem?_append_left (by simp[effC];omega),Nat.zero_mul,Nat.zero_add];rfl
 | t::ts,i+1,h=>by
   show (effC t++effs ts)[(i+1) * 3+c]?=_
   rw[List.getElem?_append_right (by simp[effC];omega),show (i+1) * 3+c - (effC t).length=i * 3+c by simp[effC];omega,eff_get hc ts i (by simpa using h)]
   rfl
section
variable {ts:List Eff} {i:Nat} (h:i<ts.length)
include h
theorem okE:okAt [.int .i64,.int .i64,.lst] (effs ts) (i * 3+0)=true:=by
 have h0:=eff_get (c:=0) (by decide) ts i h
 have h1:=eff_get (c:=1) (by decide) ts i h
 have h2:=eff_get (c:=2) (by decide) ts i h
 simp only[effC,List.getElem?_cons_zero,List.getElem?_cons_succ] at h0 h1 h2
 rw[Nat.add_zero] at h0
 simp[okAt,Nat.add_assoc,h0,h1,h2,isCK]
theorem kE:iAt (effs ts) (i * 3+0)=(eAt ts i).kind:=by unfold iAt;rw[eff_get (c:=0) (by decide) ts i h];rfl
theorem gE:iAt (effs ts) (i * 3+0+1)=(eAt ts i).len:=by unfold iAt;rw[show i * 3+0+1=i * 3+1 from rfl,eff_get (c:=1) (by decide) ts i h];rfl
theorem nE:nAt (effs ts) (i * 3+0+1+1)=(eAt ts i).nums.length:=by unfold nAt;rw[show i * 3+0+1+1=i * 3+2 from rfl,eff_get (c:=2) (by decide) ts i h];rfl
theorem lE:lAt (effs ts) (i * 3+0+1+1)=fls .f32 (eAt ts i).nums:=by unfold lAt;rw[show i * 3+0+1+1=i * 3+2 from rfl,eff_get (c:=2) (by decide) ts i h];rfl
theorem eff_drop:ts.drop i=eAt ts i::ts.drop (i+1):=by
 rw[List.drop_eq_getElem_cons h]
 simp[eAt,List.getD,h]
theorem eAt_mem:eAt ts i∈ts:=by
 have:eAt ts i=ts[i]:=by simp[eAt,List.getD,h]
 rw[this];exact List.getElem_mem h
end
theorem push_eff (acc:List Eff) (e:Eff):effs acc++setN (reps 1 [(T.int .i64 (0:Int)),(T.int .i64 (0:Int)),(T.lst 0 [])]) 0 (effC e)=effs (acc++[e]):=by
 unfold effs
 rw[List.flatMap_append,List.flatMap_singleton];rfl
theorem s_share (n:Nat) {bs:List Int} (hb:Bytes bs) {a:Int} (h0:0≤a) (h1:a≤1125899906842500) (sd:Int) :
  ∃ x a' sd',W32 x∧(a≤a'∧a'≤a+20)∧f165 (n+6) bs.length (its .u8 bs) a sd=some (x,bs.length,its .u8 bs,a',sd'):=by
 obtain ⟨b,a1,s1,ha1,e1⟩:=s_one (n+2) hb h0 (by omega) sd 10
 obtain ⟨x,a2,s2,hx,ha2,e2⟩:=s_float n hb (a:=a1) (by omega) (by omega) s1
 obtain ⟨r,a3,s3,-,ha3,e3⟩:=s_pick (n+3) hb (a:=a1) (by omega) (by omega) s1 17
 rw[f165,e1]
 cases b
 ·simp only[bd_s,br_f,e3]
  exact ⟨_,a3,s3,w32_fdiv _ _,by omega,rfl⟩
 ·simp only[bd_s,br_t,e2]
  exact ⟨x,a2,s2,hx,by omega,rfl⟩
theorem s_follow (n:Nat) {bs:List Int} (hb:Bytes bs) {a:Int} (h0:0≤a) (h1:a≤1125899906842300) (sd:Int) :
  ∃ x y z a' sd',(W32 x∧W32 y∧W32 z)∧(a≤a'∧a'≤a+80)∧f188 (n+7) bs.length (its .u8 bs) a sd=some (x,y,z,bs.length,its .u8 bs,a',sd'):=by
 obtain ⟨x,a1,s1,hx,ha1,e1⟩:=s_share n hb h0 (by omega) sd
 obtain ⟨y,a2,s2,hy,ha2,e2⟩:=s_share n hb (a:=a1) (by omega) (by omega) s1
 obtain ⟨b,a3,s3,ha3,e3⟩:=s_one (n+3) hb (a:=a2) (by omega) (by omega) s2 2
 obtain ⟨z,a4,s4,hz,ha4,e4⟩:=s_float (n+1) hb (a:=a3) (by omega) (by omega) s3
 rw[f188,e1]
 cases b
 ·simp only[bd_s,e2,e3,br_f]
  exact ⟨x,y,0,a3,s3,⟨hx,hy,w32_zero⟩,by omega,rfl⟩
 ·simp only[bd_s,e2,e3,br_t,e4]
  exact ⟨x,y,z,a4,s4,⟨hx,hy,hz⟩,by omega,rfl⟩
inductive Ef
 | scale (g:Nat)
 | filt (f1 f2 f3 f4 f5:Nat)
 | echo (L:Nat) (p q:Nat)
 | squeeze (p q r s:Nat)
 | clip (g:Nat)
 | bend
 | lim (A:Nat) (l:Nat) (r:Nat)
def limW (k:Nat):Nat:=fdiv .f32 (FloatKind.f32.nearest (1+(k:Int))) 1098907648
theorem lim_tab:∀ k:Nat,k<16→(fin32 (limW k)&&fgt .f32 (limW k) 0)=true:=by decide +kernel
def Ef.eff:Ef→Eff
 | .scale g=>⟨0,0,[g]⟩
 | .filt a b c d e=>⟨1,0,[a,b,c,d,e]⟩
 | .echo L p q=>⟨2,(L:Int),[p,q]⟩
 | .squeeze p q r s=>⟨3,0,[p,q,r,s]⟩
 | .clip g=>⟨4,0,[g]⟩
 | .bend=>⟨5,0,[]⟩
 | .lim A l r=>⟨6,(A:Int),[l,r]⟩
def Ef.Ok:Ef→Prop
 | .echo L _ _=>1≤L∧L≤32
 | .lim A l _=>A≤32∧W32 l∧(fin32 l&&fgt .f32 l 0)=true
 | .clip g=>W32 g
 | _=>True
theorem s_drawsq (n:Nat) {bs:List Int} (hb:Bytes bs) {a:Int} (h0:0≤a) (h1:a≤1125899906842000) (sd:Int) :
  ∃ p q x r s a' sd',(a≤a'∧a'≤a+200)∧f166 (n+8) bs.length (its .u8 bs) a sd=some (p,q,x,r,s,bs.length,its .u8 bs,a',sd'):=by
 obtain ⟨x,y,z,a1,s1,-,ha1,e1⟩:=s_follow n hb h0 (by omega) sd
 obtain ⟨w,a2,s2,-,ha2,e2⟩:=s_share (n+1) hb (a:=a1) (by omega) (by omega) s1
 obtain ⟨r,a3,s3,-,ha3,e3⟩:=s_pick (n+5) hb (a:=a2) (by omega) (by omega) s2 8
 obtain ⟨b,a4,s4,ha4,e4⟩:=s_one (n+4) hb (a:=a3) (by omega) (by omega) s3 10
 obtain ⟨v,a5,s5,-,ha5,e5⟩:=s_float (n+2) hb (a:=a4) (by omega) (by omega) s4
 rw[f166,e1]
 cases b
 ·simp only[bd_s,e2,e3,e4,br_f]
  exact ⟨x,y,z,w,_,a4,s4,by omega,rfl⟩
 ·simp only[bd_s,e2,e3,e4,br_t,e5]
  exact ⟨x,y,z,w,v,a5,s5,by omega,rfl⟩
theorem s_effect (n:Nat) {bs:List Int} (hb:Bytes bs) {a:Int} (h0:0≤a) (h1:a≤1125899906840000) (sd:Int) :
  ∃ (e:Ef) (a' sd':Int),e.Ok∧(a≤a'∧a'≤a+400)∧f132 (n+9) bs.length (its .u8 bs) a sd=some (e.eff.kind,e.eff.len,e.eff.nums.length,fls .f32 e.eff.nums,bs.length,its .u8 bs,a',sd'):=by
 obtain ⟨k,a1,s1,hk,ha1,e1⟩:=s_pick (n+6) hb h0 (by omega) sd 7
 have hk7:=hk.2.1 (by omega)
 have hk0:=hk.1
 obtain ⟨x,a2,s2,hx,ha2,e2⟩:=s_share (n+2) hb (a:=a1) (by omega) (by omega) s1
 obtain ⟨f,a3,s3,-,ha3,e3⟩:=s_filter (n+1) hb (a:=a1) (by omega) (by omega) s1
 obtain ⟨p,q,y,r,s,a4,s4,ha4,e4⟩:=s_drawsq n hb (a:=a1) (by omega) (by omega) s1
 obtain ⟨L,b1,t1,hL,hb1,g1⟩:=s_pick (n+6) hb (a:=a1) (by omega) (by omega) s1 5
 obtain ⟨L,rfl⟩:=Int.eq_ofNat_of_zero_le hL.1
 have hL5:=hL.2.1 (by omega)
 obtain ⟨u,b2,t2,-,hb2,g2⟩:=s_share (n+2) hb (a:=b1) (by omega) (by omega) t1
 obtain ⟨v,b3,t3,-,hb3,g3⟩:=s_share (n+2) hb (a:=b2) (by omega) (by omega) t2
 obtain ⟨m,c2,v2,hm,hc2,d2⟩:=s_pick (n+6) hb (a:=b1) (by omega) (by omega) t1 16
 obtain ⟨m,rfl⟩:=Int.eq_ofNat_of_zero_le hm.1
 have hm16:=hm.2.1 (by omega)
 obtain ⟨w,c3,v3,-,hc3,d3⟩:=s_share (n+2) hb (a:=c2) (by omega) (by omega) v2
 have w1:IntKind.i64.wrap ((1:Int)+(L:Int))=((L+1:Nat):Int):=by rw[wrap64] <;>omega
 have w2:IntKind.i64.wrap ((1:Int)+(m:Int))=1+(m:Int):=by rw[wrap64] <;>omega
 rw[f132,e1]
 rcases (show k=0∨k=1∨k=2∨k=3∨k=4∨k=5∨k=6 by omega) with rfl | rfl | rfl | rfl | rfl | rfl | rfl
 ·simp only[bd_s,beq_self_eq_true,br_t,e2]
  exact ⟨.scale x,a2,s2,trivial,by omega,rfl⟩
 ·simp only[bd_s,show ((1:Int)==0)=false from rfl,show ((1:Int)==4)=false from rfl,show ((1:Int)==1)=true from rfl,br_t,br_f,e3]
  exact ⟨.filt _ _ _ _ _,a3,s3,trivial,by omega,rfl⟩
 ·simp only[bd_s,show ((2:Int)==0)=false from rfl,show ((2:Int)==4)=false from rfl,show ((2:Int)==1)=false from rfl,show ((2:Int)==2)=true from rfl,br_t,br_f,g1,w1,g2,g3]
  exact ⟨.echo (L+1) u v,b3,t3,⟨by omega,by omega⟩,by omega,rfl⟩
 ·simp only[bd_s,show ((3:Int)==0)=false from rfl,show ((3:Int)==4)=false from rfl,show ((3:Int)==1)=false from rfl,show ((3:Int)==2)=false from rfl,show ((3:Int)==3)=true from rfl,br_t,br_f,e4]
  exact ⟨.squeeze p q r s,a4,s4,trivial,by omega,rfl⟩
 ·simp only[bd_s,show ((4:Int)==0)=false from rfl,show ((4:Int)==4)=true from rfl,br_t,br_f,e2]
  exact ⟨.clip x,a2,s2,hx,by omega,rfl⟩
 ·simp only[bd_s,show ((5:Int)==0)=false from rfl,show ((5:Int)==4)=false from rfl,show ((5:Int)==1)=false from rfl,show ((5:Int)==2)=false from rfl,show ((5:Int)==3)=false from rfl,show ((5:Int)==6)=false from rfl,br_f]
  exact ⟨.bend,a1,s1,trivial,by omega,rfl⟩
 ·simp only[bd_s,show ((6:Int)==0)=false from rfl,show ((6:Int)==4)=false from rfl,show ((6:Int)==1)=false from rfl,show ((6:Int)==2)=false from rfl,show ((6:Int)==3)=false from rfl,show ((6:Int)==6)=true from rfl,br_t,br_f,g1,d2,w2,d3]
  exact ⟨.lim L (limW m) w,c3,v3,⟨by omega,w32_fdiv _ _,lim_tab m (by omega)⟩,by omega,rfl⟩
def effL (es:List Ef):List Eff:=es.map (·.eff)
def row (ls:List (List Nat)) (i:Nat):List Nat:=ls.getD i []
section
variable {ls:List (List Nat)} {i:Nat} (h:i<ls.length)
include h
end
theorem row_set {ls:List (List Nat)} {i j:Nat} {r:List Nat} (hj:j<ls.length):row (ls.set i r) j=if i=j then r else row ls j:=by
 unfold row
 by_cases h:i=j
 ·subst h;simp[List.getD,hj]
 ·simp[List.getD,h,List.getElem?_set_ne]
def Ef.keep:Ef→Nat
 | .scale _=>0
 | .filt .. =>2
 | .echo L _ _=>L
 | .squeeze .. =>1
 | .clip _=>0
 | .bend=>0
 | .lim A _ _=>A+1
def efAt (es:List Ef) (i:Nat):Ef:=es.getD i .bend
theorem effL_length (es:List Ef):(effL es).length=es.length:=by simp[effL]
def Sok (es:List Ef) (ls:List (List Nat)):Prop:=ls.length=es.length∧∀ i,i<ls.length→(row ls i).length=(efAt es i).keep∧(∀ y∈row ls i,W32 y)
theorem Sok.set {es:List Ef} {ls:List (List Nat)} (h:Sok es ls) {i:Nat} {r:List Nat} (hi:i<ls.length) (hr:r.length=(efAt es i).keep) (hw:∀ y∈r,W32 y):Sok es (ls.set i r):=by
 refine ⟨by rw[List.length_set];exact h.1,fun j hj => ?_⟩
 rw[List.length_set] at hj
 rw[row_set hj]
 by_cases e:i=j
 ·subst e;rw[if_pos rfl];exact ⟨hr,hw⟩
 ·rw[if_neg e];exact h.2 j hj
theorem i_has (n:Nat) (a b:Int) (c:Nat) (l:List T) (lo hi k:Int) (h:lo≤b∧b≤hi) (hk:(c:Int)=k):f136 (n+2) a b c l lo hi k=some true:=by
 rw[f136,i_in,decide_eq_true h]
 simp only[bd_s,br_t,hk,beq_self_eq_true]
theorem i_limit (n:Nat) {l:Nat} (h:(fin32 l&&fgt .f32 l 0)=true):f137 (n+2) l=some true:=by rw[i_islimit,h]
theorem i_valideffect (n:Nat) {e:Ef} (h:e.Ok):f76 (n+4) e.eff.kind e.eff.len e.eff.nums.length (fls .f32 e.eff.nums)=some true:=by
 rw[f76]
 cases e with
 | scale g =>
   have:=i_has (n+1) 0 0 1 (fls .f32 [g]) 0 0 1 (by omega) (by omega)
   simp only[Ef.eff,beq_self_eq_true,br_t,List.length_cons,List.length_nil,Nat.zero_add,this,bd_s]
 | filt a b c d f =>
   have:=i_has (n+1) 1 0 5 (fls .f32 [a,b,c,d,f]) 0 0 5 (by omega) (by omega)
   simp only[Ef.eff,show ((1:Int)==0)=false from rfl,show ((1:Int)==4)=false from rfl,beq_self_eq_true,br_t,br_f,List.length_cons,List.length_nil,Nat.zero_add,Nat.reduceAdd,this,bd_s]
 | echo L p q =>
   have hL:1≤L∧L≤32:=h
   have:=i_has (n+1) 2 (L:Int) 2 (fls .f32 [p,q]) 1 32 2 (by omega) (by omega)
   simp only[Ef.eff,show ((2:Int)==0)=false from rfl,show ((2:Int)==4)=false from rfl,show ((2:Int)==1)=false from rfl,beq_self_eq_true,br_t,br_f,List.length_cons,List.length_nil,Nat.zero_add,Nat.reduceAdd,this,bd_s]
 | squeeze a b c d =>
   have:=i_has (n+1) 3 0 4 (fls .f32 [a,b,c,d]) 0 0 4 (by omega) (by omega)
   simp only[Ef.eff,show ((3:Int)==0)=false from rfl,show ((3:Int)==4)=false from rfl,show ((3:Int)==1)=false from rfl,show ((3:Int)==2)=false from rfl,beq_self_eq_true,br_t,br_f,List.length_cons,List.length_nil,Nat.zero_add,Nat.reduceAdd,this,bd_s]
 | clip g =>
   have:=i_has (n+1) 4 0 1 (fls .f32 [g]) 0 0 1 (by omega) (by omega)
   simp only[Ef.eff,show ((4:Int)==0)=false from rfl,beq_self_eq_true,br_t,br_f,List.length_cons,List.length_nil,Nat.zero_add,this,bd_s]
 | bend =>
   have:=i_has (n+1) 5 0 0 (fls .f32 []) 0 0 0 (by omega) (by omega)
   simp only[Ef.eff,show ((5:Int)==0)=false from rfl,show ((5:Int)==4)=false from rfl,show ((5:Int)==1)=false from rfl,show ((5:Int)==2)=false from rfl,show ((5:Int)==3)=false from rfl,beq_self_eq_true,br_t,br_f,List.length_nil,this,bd_s]
 | lim A k r =>
   have hA:A≤32∧W32 k∧_:=h
   have:=i_has (n+1) 6 (A:Int) 2 (fls .f32 [k,r]) 0 32 2 (by omega) (by omega)
   have g1:decide ((0:Int)≤0∧(0:Int)<((2:Nat):Int))=true:=rfl
   have g2:okAt [.flt .f32] (fls .f32 [k,r]) 0=true:=rfl
   have g3:fAt (fls .f32 [k,r]) 0=k:=rfl
   simp only[Ef.eff,show ((6:Int)==0)=false from rfl,show ((6:Int)==4)=false from rfl,show ((6:Int)==1)=false from rfl,show ((6:Int)==2)=false from rfl,show ((6:Int)==3)=false from rfl,show ((6:Int)==5)=false from rfl,beq_self_eq_true,br_t,br_f,List.length_cons,List.length_nil,Nat.zero_add,Nat.reduceAdd,this,bd_s,g1,g2,g3,Bool.and_self,gd_t,i_limit (n+1) hA.2.2]
def bendM (x:Nat):Nat:=if fge .f32 x 1065353216=true then 1065353216 else if fle .f32 x 3212836864=true then 3212836864 else fmul .f32 x (fsub .f32 1069547520 (fmul .f32 1056964608 (fmul .f32 x x)))
def echoStep (p q:Nat) (w:List Nat) (x:Nat):Nat × List Nat:=(fadd .f32 x (fmul .f32 q (headM w)),tookM w (flushM (fadd .f32 x (fmul .f32 p (headM w)))))
section
variable {σ τ α β:Type}
end
def Ef.step:Ef→List Nat→Nat→Nat × List Nat
 | .scale g,_,x=>(fmul .f32 x g,[])
 | .filt a b c d e,w,x=>((fstep (a,b,c,d,e) 1 true (w.getD 0 0,w.getD 1 0,0,0) x).1,[(fstep (a,b,c,d,e) 1 true (w.getD 0 0,w.getD 1 0,0,0) x).2.1,(fstep (a,b,c,d,e) 1 true (w.getD 0 0,w.getD 1 0,0,0) x).2.2.1])
 | .echo L p q,w,x=>echoStep p q w x
 | .squeeze a r t q,w,x=>((duckStep a r t q (w.getD 0 0) (x,x)).1,[(duckStep a r t q (w.getD 0 0) (x,x)).2])
 | .clip g,_,x=>(clipM g x,[])
 | .bend,_,x=>(bendM x,[])
 | .lim A k r,w,x=>((limStep k r (w.getD 0 0,w.drop 1) x).1,(limStep k r (w.getD 0 0,w.drop 1) x).2.1::(limStep k r (w.getD 0 0,w.drop 1) x).2.2)
def Fit (e:Ef) (w:List Nat):Prop:=w.length=e.keep∧AllW w
def Fits:List Ef→List (List Nat)→Prop
 | e::es,w::ls=>Fit e w∧Fits es ls
 | [],[]=>True
 | _,_=>False
theorem Fits.len:∀ {es:List Ef} {ls:List (List Nat)},Fits es ls→ls.length=es.length
 | [],[],_=>rfl
 | _::_,_::_,h=>by simp[h.2.len]
 | [],_::_,h=>h.elim
 | _::_,[],h=>h.elim
theorem Fits.at:∀ {es:List Ef} {ls:List (List Nat)},Fits es ls→∀ i,i<es.length→Fit (efAt es i) (row ls i)
 | [],[],_,i,hi=>by simp at hi
 | _::_,_::_,h,0,_=>h.1
 | _::_,_::_,h,i+1,hi=>h.2.at i (by simpa using hi)
 | [],_::_,h,_,_=>h.elim
 | _::_,[],h,_,_=>h.elim
theorem s_limitB (n:Nat) (l:Nat):f194 (n+2) l=some (fin32 l&&fgt .f32 l 0):=by
 have e:f205 (n+1) l=some (fin32 l):=by rw[f205,sub_finite]
 rw[f194,e]
 cases fin32 l <;>rfl
def effB (e:Eff):Bool :=
 if e.kind=0∨e.kind=4 then decide (e.len=0∧e.nums.length=1)
 else if e.kind=1 then decide (e.len=0∧e.nums.length=5)
 else if e.kind=2 then decide ((1≤e.len∧e.len≤32)∧e.nums.length=2)
 else if e.kind=3 then decide (e.len=0∧e.nums.length=4)
 else if e.kind=5 then decide (e.len=0∧e.nums.length=0)
 else if e.kind=6 then decide ((0≤e.len∧e.len≤32)∧e.nums.length=2)&&(fin32 (e.nums.getD 0 0)&&fgt .f32 (e.nums.getD 0 0) 0)
 else false
theorem i_hasB (n:Nat) (a b:Int) (c:Nat) (l:List T) (lo hi k:Int):f136 (n+2) a b c l lo hi k=some (decide (lo≤b∧b≤hi)&&((c:Int)==k)):=by
 rw[f136,i_in]
 simp only[bd_s]
 cases decide (lo≤b∧b≤hi) <;>rfl
theorem kind_cases (k:Int):k=0∨k=1∨k=2∨k=3∨k=4∨k=5∨k=6∨((k==0)=false∧(k==1)=false∧(k==2)=false∧(k==3)=false∧(k==4)=false∧(k==5)=false∧(k==6)=false):=by
 simp only[beq_eq_false_iff_ne];omega
theorem has_dec (b:Int) (c:Nat) (k:Nat):(decide ((0:Int)≤b∧b≤0)&&((c:Int)==(k:Int)))=decide (b=0∧c=k):=by
 rw[Bool.eq_iff_iff];simp;omega
theorem i_effB (n:Nat) (e:Eff):f76 (n+4) e.kind e.len e.nums.length (fls .f32 e.nums)=some (effB e):=by
 obtain ⟨k,b,l⟩:=e
 rw[f76]
 unfold effB
 simp only[i_hasB (n+1)]
 rcases kind_cases k with rfl | rfl | rfl | rfl | rfl | rfl | rfl | ⟨h0,h1,h2,h3,h4,h5,h6⟩
 ·have:=has_dec b l.length 1
  simp only[beq_self_eq_true,br_t,bd_s]
  rw[show ((1:Nat):Int)=1 from rfl] at this
  rw[this];rfl
 ·have:=has_dec b l.length 5
  simp only[show ((1:Int)==0)=false from rfl,show ((1:Int)==4)=false from rfl,beq_self_eq_true,br_t,br_f,bd_s]
  rw[show ((5:Nat):Int)=5 from rfl] at this
  rw[this];rfl
 ·simp only[show ((2:Int)==0)=false from rfl,show ((2:Int)==4)=false from rfl,show ((2:Int)==1)=false from rfl,beq_self_eq_true,br_t,br_f,bd_s]
  congr 1
  rw[if_neg (by decide),if_neg (by decide),if_pos trivial,Bool.eq_iff_iff];simp;omega
 ·have:=has_dec b l.length 4
  simp only[show ((3:Int)==0)=false from rfl,show ((3:Int)==4)=false from rfl,show ((3:Int)==1)=false from rfl,show ((3:Int)==2)=false from rfl,beq_self_eq_true,br_t,br_f,bd_s]
  rw[show ((4:Nat):Int)=4 from rfl] at this
  rw[this];rfl
 ·have:=has_dec b l.length 1
  simp only[show ((4:Int)==0)=false from rfl,beq_self_eq_true,br_t,br_f,bd_s]
  rw[show ((1:Nat):Int)=1 from rfl] at this
  rw[this];rfl
 ·have:=has_dec b l.length 0
  simp only[show ((5:Int)==0)=false from rfl,show ((5:Int)==4)=false from rfl,show ((5:Int)==1)=false from rfl,show ((5:Int)==2)=false from rfl,show ((5:Int)==3)=false from rfl,beq_self_eq_true,br_t,br_f,bd_s]
  rw[show ((0:Nat):Int)=0 from rfl] at this
  rw[this];rfl
 ·simp only[show ((6:Int)==0)=false from rfl,show ((6:Int)==4)=false from rfl,show ((6:Int)==1)=false from rfl,show ((6:Int)==2)=false from rfl,show ((6:Int)==3)=false from rfl,show ((6:Int)==5)=false from rfl,beq_self_eq_true,br_t,br_f,bd_s]
  rw[if_neg (by decide),if_neg (by decide),if_neg (by decide),if_neg (by decide),if_neg (by decide),if_pos trivial]
  by_cases hv:(0≤b∧b≤32)∧l.length=2
  ·rw[decide_eq_true hv.1,decide_eq_true hv,show (((l.length:Nat):Int)==2)=true by rw[hv.2];rfl,decide_eq_true (show (0:Int)≤0∧(0:Int)<((l.length:Nat):Int) by omega),okAt_fls (by omega)]
   simp only[Bool.and_self,br_t,gd_t,i_islimit,bd_s,fAt_fls,Bool.true_and]
  ·rw[decide_eq_false hv]
   have:(decide (0≤b∧b≤32)&&(((l.length:Nat):Int)==2))=false:=by
    rw[Bool.eq_false_iff];intro h;apply hv;simp at h;omega
   rw[this];rfl
 ·simp only[h0,h1,h2,h3,h4,h5,h6,br_f]
  simp only[beq_eq_false_iff_ne] at h0 h1 h2 h3 h4 h5 h6
  rw[if_neg (by simp[h0,h4]),if_neg h1,if_neg h2,if_neg h3,if_neg h5,if_neg h6]
theorem s_effB (n:Nat) (e:Eff):f177 (n+4) e.kind e.len e.nums.length (fls .f32 e.nums)=some (effB e):=by
 obtain ⟨k,b,l⟩:=e
 rw[f177]
 unfold effB
 simp only[s_in (n+2)]
 have cut:∀ (lo hi:Int) (c d:Int) (v:Option Bool),f133 (n+3) k b=some (c,d) →
   (bd (some (decide (lo≤b∧b≤hi))) fun r=>br (!r) (some false) (bd (f133 (n+3) k b) fun r7=>br (((l.length:Nat):Int)==r7.1) v (some false)))=br (decide (lo≤b∧b≤hi)&&(((l.length:Nat):Int)==c)) v (some false):=by
  intro lo hi c d v h
  rw[h]
  simp only[bd_s]
  cases decide (lo≤b∧b≤hi) <;>rfl
 rcases kind_cases k with rfl | rfl | rfl | rfl | rfl | rfl | rfl | ⟨h0,h1,h2,h3,h4,h5,h6⟩
 ·have c:=cut 0 0 1 0 (some true) (by rw[f133];rfl)
  have:=has_dec b l.length 1
  rw[show ((1:Nat):Int)=1 from rfl] at this
  simp only[show ((0:Int)==2)=false from rfl,show ((0:Int)==6)=false from rfl,br_f,show ((0:Int) != 6)=true from rfl,br_t]
  refine c.trans ?_
  rw[this]
  show br (decide (b=0∧l.length=1)) (some true) (some false)=some (decide (b=0∧l.length=1))
  cases decide (b=0∧l.length=1) <;>rfl
 ·have c:=cut 0 0 5 2 (some true) (by rw[f133];rfl)
  have:=has_dec b l.length 5
  rw[show ((5:Nat):Int)=5 from rfl] at this
  simp only[show ((1:Int)==2)=false from rfl,show ((1:Int)==6)=false from rfl,br_f,show ((1:Int) != 6)=true from rfl,br_t]
  refine c.trans ?_
  rw[this]
  show br (decide (b=0∧l.length=5)) (some true) (some false)=some (decide (b=0∧l.length=5))
  cases decide (b=0∧l.length=5) <;>rfl
 ·have c:=cut 1 32 2 b (some true) (by rw[f133];rfl)
  simp only[beq_self_eq_true,show ((2:Int)==6)=false from rfl,br_f,show ((2:Int) != 6)=true from rfl,br_t]
  refine c.trans ?_
  have e:(decide (1≤b∧b≤32)&&(((l.length:Nat):Int)==2))=decide ((1≤b∧b≤32)∧l.length=2):=by rw[Bool.eq_iff_iff];simp;omega
  rw[e,if_neg (by decide),if_neg (by decide),if_pos trivial]
  cases decide ((1≤b∧b≤32)∧l.length=2) <;>rfl
 ·have c:=cut 0 0 4 1 (some true) (by rw[f133];rfl)
  have:=has_dec b l.length 4
  rw[show ((4:Nat):Int)=4 from rfl] at this
  simp only[show ((3:Int)==2)=false from rfl,show ((3:Int)==6)=false from rfl,br_f,show ((3:Int) != 6)=true from rfl,br_t]
  refine c.trans ?_
  rw[this]
  show br (decide (b=0∧l.length=4)) (some true) (some false)=some (decide (b=0∧l.length=4))
  cases decide (b=0∧l.length=4) <;>rfl
 ·have c:=cut 0 0 1 0 (some true) (by rw[f133];rfl)
  have:=has_dec b l.length 1
  rw[show ((1:Nat):Int)=1 from rfl] at this
  simp only[show ((4:Int)==2)=false from rfl,show ((4:Int)==6)=false from rfl,br_f,show ((4:Int) != 6)=true from rfl,br_t]
  refine c.trans ?_
  rw[this]
  show br (decide (b=0∧l.length=1)) (some true) (some false)=some (decide (b=0∧l.length=1))
  cases decide (b=0∧l.length=1) <;>rfl
 ·have c:=cut 0 0 0 0 (some true) (by rw[f133];rfl)
  have:=has_dec b l.length 0
  rw[show ((0:Nat):Int)=0 from rfl] at this
  simp only[show ((5:Int)==2)=false from rfl,show ((5:Int)==6)=false from rfl,br_f,show ((5:Int) != 6)=true from rfl,br_t]
  refine c.trans ?_
  rw[this]
  show br (decide (b=0∧l.length=0)) (some true) (some false)=some (decide (b=0∧l.length=0))
  cases decide (b=0∧l.length=0) <;>rfl
 ·have c:=fun v=>cut 0 32 2 (IntKind.i64.wrap (1+b)) v (by rw[f133];rfl)
  simp only[show ((6:Int)==2)=false from rfl,beq_self_eq_true,br_f,show ((6:Int) != 6)=false from rfl,br_t]
  refine (c _).trans ?_
  have e:(decide (0≤b∧b≤32)&&(((l.length:Nat):Int)==2))=decide ((0≤b∧b≤32)∧l.length=2):=by rw[Bool.eq_iff_iff];simp;omega
  rw[e,if_neg (by decide),if_neg (by decide),if_neg (by decide),if_neg (by decide),if_neg (by decide),if_pos trivial]
  by_cases hv:(0≤b∧b≤32)∧l.length=2
  ·rw[decide_eq_true hv,decide_eq_true (show (0:Int)≤0∧(0:Int)<((l.length:Nat):Int) by omega),okAt_fls (by omega),s_limitB (n+1)]
   simp only[Bool.and_self,br_t,gd_t,bd_s,fAt_fls,Bool.true_and]
  ·rw[decide_eq_false hv];rfl
 ·have hc:f133 (n+3) k b=some (-1,-1):=by
   rw[f133];simp only[h0,h1,h2,h3,h4,h5,h6,br_f]
  have c:=fun v=>cut 0 0 (-1) (-1) v hc
  simp only[h2,h6,br_f]
  refine (c _).trans ?_
  simp only[beq_eq_false_iff_ne] at h0 h1 h2 h3 h4 h5 h6
  rw[if_neg (by simp[h0,h4]),if_neg h1,if_neg h2,if_neg h3,if_neg h5,if_neg h6,show (((l.length:Nat):Int) == -1)=false by rw[beq_eq_false_iff_ne];omega,Bool.and_false]
  rfl
def GoodE (e:Eff):Prop:=GoodI .i64 e.kind∧GoodI .i64 e.len∧(∀ x∈e.nums,W32 x)
def chainB (cs:List Eff):Bool:=decide (cs.length≤8)&&cs.all effB
theorem all_drop {cs:List Eff} {i:Nat} (h:i<cs.length):(cs.drop i).all effB=(effB (eAt cs i)&&(cs.drop (i+1)).all effB):=by
 rw[eff_drop h,List.all_cons]
end Go.Proofs.Ytdobhipbgpiceaa.D
end
