/- FnFilterRows holds: for every input the law returns true, and its arguments read as before. -/
import Derived.Test.YtdobhipbgpiceaaChecked
import Derived.KernelRfl
import Derived.Shelf.SlicesE.Kit
import Derived.Shelf.RegionOpenPlain
import Derived.WalkKit
import Derived.Deep.LoopGhost
import Derived.Deep.RegionLaw
import Derived.Deep.MidRow
import Derived.Lib.Walk
import Derived.Sort.WalkB12
import Derived.Lib.SliceRun
import Derived.Lib.SlicesDelete
import Derived.Lib.SlicesMore
import Derived.Lib.SlicesCompact
import Derived.Test.YtdobhipbgpiceaaRows
import Derived.ProofKit
import Derived.OpenShut
import Derived.ShutString
import Derived.ChangeOld
import Derived.Below
import Derived.SizedLaws
import Derived.Test.YtdobhipbgpiceaaKernC
set_option linter.all false
set_option linter.unusedVariables false
section
namespace Go.Desk
open Go
def p2 (e:Int):Rat:=(2:Rat) ^ e
theorem p2_pos (e:Int):0<p2 e:=Rat.zpow_pos (by decide)
theorem p2_add (a b:Int):p2 (a+b)=p2 a * p2 b:=Rat.zpow_add (by decide) a b
theorem p2_zero:p2 0=1:=Rat.zpow_zero _
theorem p2_nat (n:Nat):p2 (n:Int)=((2 ^ n:Nat):Rat):=by
 induction n with
 | zero=>exact p2_zero
 | succ n ih =>
   rw[show ((n+1:Nat):Int)=(n:Int)+1 by omega,p2_add,ih,Nat.pow_succ,Rat.natCast_mul,show p2 1=(2:Rat) from Rat.zpow_one _]
   rfl
theorem p2_ge_one (n:Nat):1≤p2 (n:Int):=by
 rw[p2_nat]
 have:1≤2 ^ n:=Nat.one_le_two_pow
 exact_mod_cast this
theorem p2_le {a b:Int} (h:a≤b):p2 a≤p2 b:=by
 obtain ⟨n,hn⟩:=Int.eq_ofNat_of_zero_le (show 0≤b - a by omega)
 rw[show b=a+(n:Int) by omega,p2_add]
 have:=Rat.mul_le_mul_of_nonneg_left (p2_ge_one n) (Rat.le_of_lt (p2_pos a))
 rwa [Rat.mul_one] at this
theorem p2_lt {a b:Int} (h:a<b):p2 a<p2 b:=by
 have h1:p2 (a+1)≤p2 b:=p2_le (by omega)
 have h2:p2 (a+1)=p2 a * 2:=by rw[p2_add,show p2 1=(2:Rat) from Rat.zpow_one _]
 have h3:=p2_pos a
 grind
def mv (m:Nat) (e:Int):Rat:=(m:Rat) * p2 e
theorem mv_nonneg (m:Nat) (e:Int):0≤mv m e:=Rat.mul_nonneg (by exact_mod_cast Nat.zero_le m) (Rat.le_of_lt (p2_pos e))
theorem mv_zero (e:Int):mv 0 e=0:=by unfold mv;rw[show ((0:Nat):Rat)=0 from rfl,Rat.zero_mul]
theorem mv_shift (m k:Nat) (e:Int):mv (m * 2 ^ k) e=mv m (e+k):=by
 unfold mv
 rw[Rat.natCast_mul,p2_add,p2_nat]
 grind
theorem mv_le {m n:Nat} {e:Int}:mv m e≤mv n e↔m≤n:=by
 unfold mv
 constructor
 ·intro h
  have:=Rat.le_of_mul_le_mul_right h (p2_pos e)
  exact_mod_cast this
 ·intro h
  exact Rat.mul_le_mul_of_nonneg_right (by exact_mod_cast h) (Rat.le_of_lt (p2_pos e))
theorem mv_lt {m n:Nat} {e:Int}:mv m e<mv n e↔m<n:=by
 rw[← Rat.not_le,mv_le];omega
theorem mv_one (e:Int):mv 1 e=p2 e:=by unfold mv;rw[show ((1:Nat):Rat)=1 from rfl,Rat.one_mul]
theorem mv_pow (k:Nat) (e:Int):mv (2 ^ k) e=p2 (e+k):=by
 have:=mv_shift 1 k e
 rw[Nat.one_mul] at this
 rw[this,mv_one]
theorem cut_bounds (s:Bool) (n d B:Nat):(n≤B * 2 ^ d→Ieee.Toward.cut .even s n d≤B)∧(B * 2 ^ d≤n→B≤Ieee.Toward.cut .even s n d):=by
 unfold Ieee.Toward.cut
 simp only[Nat.shiftLeft_eq,Nat.one_mul]
 rcases Nat.lt_or_ge (n.log2+2) d with hd | hd
 ·rw[Nat.min_eq_right (Nat.le_of_lt hd)]
  have h1:n<2 ^ (n.log2+1):=Nat.lt_log2_self
  have h2:2 ^ (n.log2+2)=2 * 2 ^ (n.log2+1):=by rw[Nat.pow_succ];omega
  have h3:n<2 ^ (n.log2+2):=by omega
  rw[Nat.div_eq_of_lt h3,Nat.mod_eq_of_lt h3]
  have hm:(decide (2 ^ (n.log2+2)<2 * n)||(2 ^ (n.log2+2)==2 * n&&(0:Nat) % 2==1))=false:=by
   simp;omega
  rw[hm]
  constructor
  ·intro _;exact Nat.zero_le _
  ·intro h
   have h4:2 ^ (n.log2+2)≤2 ^ d:=Nat.pow_le_pow_right (by decide) (by omega)
   rcases Nat.eq_zero_or_pos B with rfl | hB
   ·exact Nat.zero_le _
   ·have:2 ^ d≤B * 2 ^ d:=Nat.le_mul_of_pos_left _ hB
    omega
 ·rw[Nat.min_eq_left hd]
  have hg:0<2 ^ d:=Nat.two_pow_pos d
  generalize 2 ^ d=g at hg ⊢
  have hn:g * (n / g)+n % g=n:=Nat.div_add_mod n g
  have hr:n % g<g:=Nat.mod_lt _ hg
  generalize hq:n / g=q at hn ⊢
  generalize hrr:n % g=r at hn hr ⊢
  constructor
  ·intro h
   cases hm:(decide (g<2 * r)||(g==2 * r&&q % 2==1))
   ·simp only[Bool.toNat_false,Nat.add_zero]
    have:g * q≤B * g:=by omega
    rw[Nat.mul_comm] at this
    exact Nat.le_of_mul_le_mul_right this hg
   ·simp only[Bool.toNat_true]
    have hr0:0<r:=by
     simp only[Bool.or_eq_true,decide_eq_true_eq,Bool.and_eq_true,beq_iff_eq] at hm
     omega
    have:g * q<g * B:=by rw[Nat.mul_comm g B];omega
    exact Nat.lt_of_mul_lt_mul_left this
  ·intro h
   have:B≤q:=by
    rw[← hq]
    exact (Nat.le_div_iff_mul_le hg).2 h
   omega
def sg (s:Bool) (v:Rat):Rat:=if s then -v else v
def fval (k:FloatKind) (x:Nat):Rat:=match k.decode x with
 | .number s m e=>sg s (mv m e)
 | _=>0
def Rep0 (k:FloatKind) (B:Rat):Prop:=∃ M P,M≤2 * k.format.binade∧k.format.leastPlace≤P∧B=mv M P
def topE:FloatKind→Int
 | .f32=>128
 | .f64=>1024
theorem fmt (k:FloatKind):∃ K:Nat,2≤K∧k.format.infRung=K * k.format.binade∧topE k=k.format.leastPlace+(k.format.fractionBits:Int)+(K:Int) - 1∧k.format.infRung<k.format.signWeight∧k.format.binade=2 ^ k.format.fractionBits:=by
 cases k
 ·exact ⟨255,by decide,by decide,by decide,by decide,rfl⟩
 ·exact ⟨2047,by decide,by decide,by decide,by decide,rfl⟩
theorem word_neg {f:Ieee.Format} {s:Bool} {r:Nat} (h:r<f.signWeight):(f.word s r / f.signWeight % 2==1)=s:=by
 have hp:0<f.signWeight:=by omega
 unfold Ieee.Format.word
 cases s
 ·simp[Nat.div_eq_of_lt h]
 ·simp only[if_true]
  rw[Nat.add_div_left _ hp,Nat.div_eq_of_lt h];rfl
theorem word_rung {f:Ieee.Format} {s:Bool} {r:Nat} (h:r<f.signWeight):f.word s r % f.signWeight=r:=by
 unfold Ieee.Format.word
 split
 ·rw[Nat.add_mod_left,Nat.mod_eq_of_lt h]
 ·rw[Nat.mod_eq_of_lt h]
theorem read_rung (k:FloatKind) (s:Bool) {j kept:Nat} (h1:kept≤2 * k.format.binade) (h2:0<j→k.format.binade≤kept) (h3:j * k.format.binade+kept<k.format.infRung) :
  ∃ m e,k.format.read (k.format.word s (j * k.format.binade+kept)) = .number s m e∧mv m e=mv kept (k.format.leastPlace+(j:Int))∧m≤2 * k.format.binade∧k.format.leastPlace≤e:=by
 obtain ⟨K,-,-,-,hw,hb⟩:=fmt k
 have hbp:0<k.format.binade:=by rw[hb];exact Nat.two_pow_pos _
 have hr:j * k.format.binade+kept<k.format.signWeight:=by omega
 unfold Ieee.Format.read
 simp only[word_neg hr,word_rung hr]
 generalize hbb:k.format.binade=b at *
 by_cases c1:j * b+kept<b
 ·rw[if_pos c1]
  have hj:j=0:=by
   rcases Nat.eq_zero_or_pos j with h | h
   ·exact h
   ·have:=Nat.le_mul_of_pos_left b h;omega
  subst hj
  refine ⟨_,_,rfl,?_,by omega,Int.le_refl _⟩
  rw[Nat.zero_mul,Nat.zero_add];simp
 ·rw[if_neg c1,if_pos h3]
  rcases Nat.lt_or_ge kept b with hk | hk
  ·rcases Nat.eq_zero_or_pos j with h | h
   ·subst h;omega
   ·have:=h2 h;omega
  ·rcases Nat.lt_or_ge kept (2 * b) with hk2 | hk2
   ·have e1:(j * b+kept) / b=j+1:=by
     rw[show j * b+kept=(kept - b)+b * (j+1) by rw[Nat.mul_add,Nat.mul_comm b j];omega,Nat.add_mul_div_left _ _ hbp,Nat.div_eq_of_lt (by omega)];omega
    have e2:(j * b+kept) % b=kept - b:=by
     rw[show j * b+kept=(kept - b)+b * (j+1) by rw[Nat.mul_add,Nat.mul_comm b j];omega,Nat.add_mul_mod_self_left,Nat.mod_eq_of_lt (by omega)]
    refine ⟨_,_,rfl,?_,by rw[e2];omega,by rw[e1];omega⟩
    rw[e1,e2,show b+(kept - b)=kept by omega,Nat.add_sub_cancel]
   ·have hk3:kept=2 * b:=by omega
    subst hk3
    have e1:(j * b+2 * b) / b=j+2:=by rw[← Nat.add_mul,Nat.mul_div_cancel _ hbp]
    have e2:(j * b+2 * b) % b=0:=by rw[← Nat.add_mul,Nat.mul_mod_left]
    refine ⟨_,_,rfl,?_,by rw[e2];omega,by rw[e1];omega⟩
    rw[e1,e2,Nat.add_zero,show (j+2 - 1:Nat)=j+1 by omega,show 2 * b=b * 2 ^ 1 by omega,mv_shift]
    congr 1;omega
theorem round_mag (k:FloatKind) (s:Bool) (m:Nat) (e:Int) {B0:Rat} (hB0:Rep0 k B0) (hv:mv m e≤B0) (hf:B0<p2 (topE k)) :
  ∃ m' e',k.format.read (k.format.nearest s m e) = .number s m' e'∧m'≤2 * k.format.binade∧k.format.leastPlace≤e'∧∀ B,Rep0 k B→(mv m e≤B→mv m' e'≤B)∧(B≤mv m e→B≤mv m' e'):=by
 obtain ⟨K,hK,hinf,htop,hw,hb⟩:=fmt k
 have hbp:0<k.format.binade:=by rw[hb];exact Nat.two_pow_pos _
 unfold Ieee.Format.nearest
 by_cases hm:m=0
 ·subst hm
  rw[if_pos rfl]
  have h3:0 * k.format.binade+0<k.format.infRung:=by rw[hinf,Nat.zero_mul,Nat.zero_add];exact Nat.mul_pos (by omega) hbp
  obtain ⟨m',e',r1,r2,r3,r4⟩:=read_rung k s (j:=0) (kept:=0) (Nat.zero_le _) (by omega) h3
  rw[Nat.zero_mul] at r1
  refine ⟨m',e',r1,r3,r4,fun B _ => ?_⟩
  rw[r2,mv_zero,mv_zero]
  exact ⟨id,id⟩
 rw[if_neg hm]
 generalize hla:max (e+(m.log2:Int) - (k.format.fractionBits:Int)) k.format.leastPlace=last
 have hl1:k.format.leastPlace≤last:=by omega
 have hl2:e+(m.log2:Int) - (k.format.fractionBits:Int)≤last:=by omega
 have hl3:last≠k.format.leastPlace→last=e+(m.log2:Int) - (k.format.fractionBits:Int):=by omega
 simp only
 generalize hn:m <<< (e - last).toNat=n
 generalize hd:(last - e).toNat=d
 have hval:mv n (last - (d:Int))=mv m e:=by
  rw[← hn,Nat.shiftLeft_eq,mv_shift]
  congr 1;omega
 have hlow:p2 (e+(m.log2:Int))≤mv m e:=by
  have:2 ^ m.log2≤m:=Nat.log2_self_le hm
  have h:=(mv_le (e:=e)).2 this
  rwa [mv_pow] at h
 have hhigh:mv m e<p2 (e+(m.log2:Int)+1):=by
  have:m<2 ^ (m.log2+1):=Nat.lt_log2_self
  have h:=(mv_lt (e:=e)).2 this
  rw[mv_pow] at h
  rw[show e+(m.log2:Int)+1=e+((m.log2+1:Nat):Int) by omega];exact h
 generalize hk:Ieee.Toward.cut .even s n d=kept
 have hcut:∀ B:Nat,(mv m e≤mv B last→mv kept last≤mv B last)∧(mv B last≤mv m e→mv B last≤mv kept last):=by
  intro B
  have hB:mv B last=mv (B * 2 ^ d) (last - (d:Int)):=by rw[mv_shift];congr 1;omega
  have:=cut_bounds s n d B
  rw[hk] at this
  rw[mv_le,mv_le]
  rw[← hval,hB,mv_le,mv_le]
  exact this
 have hkb:kept≤2 * k.format.binade:=by
  have h:=(hcut (2 * k.format.binade)).1 (by
   rw[hb,show 2 * 2 ^ k.format.fractionBits=2 ^ (k.format.fractionBits+1) by rw[Nat.pow_succ];omega,mv_pow]
   refine Rat.le_trans (Rat.le_of_lt hhigh) (p2_le ?_)
   omega)
  exact mv_le.1 h
 have hkl:last≠k.format.leastPlace→k.format.binade≤kept:=by
  intro h
  have h:=(hcut k.format.binade).2 (by
   rw[hb,mv_pow]
   refine Rat.le_trans (p2_le ?_) hlow
   have:=hl3 h
   omega)
  exact mv_le.1 h
 have key:∀ B,Rep0 k B→(mv m e≤B→mv kept last≤B)∧(B≤mv m e→B≤mv kept last):=by
  rintro B ⟨M,P,hM,hP,rfl⟩
  by_cases hPl:last≤P
  ·have hB:mv M P=mv (M * 2 ^ (P - last).toNat) last:=by rw[mv_shift];congr 1;omega
   rw[hB];exact hcut _
  ·have hl4:=hl3 (by omega)
   have hMB:mv M P≤mv k.format.binade last:=by
    refine Rat.le_trans (mv_le.2 hM) ?_
    rw[hb,show 2 * 2 ^ k.format.fractionBits=2 ^ (k.format.fractionBits+1) by rw[Nat.pow_succ];omega,mv_pow,mv_pow]
    exact p2_le (by omega)
   have hBm:mv k.format.binade last≤mv m e:=by
    rw[hb,mv_pow]
    exact Rat.le_trans (p2_le (by omega)) hlow
   constructor
   ·intro h
    have h1:mv m e≤mv k.format.binade last:=Rat.le_trans h hMB
    exact Rat.le_trans ((hcut _).1 h1) (Rat.le_trans hBm h)
   ·intro _
    exact Rat.le_trans hMB ((hcut _).2 hBm)
 have hfin:(last - k.format.leastPlace).toNat * k.format.binade+kept<k.format.infRung:=by
  rcases Nat.lt_or_ge ((last - k.format.leastPlace).toNat * k.format.binade+kept) k.format.infRung with h | h
  ·exact h
  ·exfalso
   have hR:mv kept last<p2 (topE k):=by
    have h1:=(key B0 hB0).1 hv
    grind
   rw[hinf] at h
   generalize hj:(last - k.format.leastPlace).toNat=j at h
   generalize hbb:k.format.binade=b at *
   have hj2:K≤j+2:=by
    rcases Nat.lt_or_ge (j+2) K with h' | h'
    ·have:(j+3) * b≤K * b:=Nat.mul_le_mul_right _ h'
     rw[Nat.add_mul] at this
     omega
    ·exact h'
   have hge:p2 (topE k)≤mv kept last:=by
    rcases Nat.lt_or_ge j (K - 1) with h' | h'
    ·have hj3:K=j+2:=by omega
     subst hj3
     rw[Nat.add_mul] at h
     have:kept=2 ^ (k.format.fractionBits+1):=by rw[Nat.pow_succ,← hb];omega
     rw[this,mv_pow]
     exact p2_le (by omega)
    ·have:mv (2 ^ k.format.fractionBits) last≤mv kept last:=mv_le.2 (by rw[← hb];exact hkl (by omega))
     refine Rat.le_trans ?_ this
     rw[mv_pow]
     exact p2_le (by omega)
   grind
 rw[Nat.min_eq_left (Nat.le_of_lt hfin)]
 obtain ⟨m',e',r1,r2,r3,r4⟩:=read_rung k s hkb (fun h=>hkl (by omega)) hfin
 refine ⟨m',e',r1,r3,r4,fun B hB => ?_⟩
 rw[r2,show k.format.leastPlace+((last - k.format.leastPlace).toNat:Int)=last by omega]
 exact key B hB
end Go.Desk
end
section
namespace Go.Desk
open Go
theorem mv_mul (a b:Nat) (e f:Int):mv (a * b) (e+f)=mv a e * mv b f:=by
 unfold mv;rw[Rat.natCast_mul,p2_add];grind
theorem single_le {x:Nat} {s:Bool} {m:Nat} {e:Int} (h:FloatKind.f32.decode x = .number s m e):mv m e≤p2 128:=by
 obtain ⟨h1,-,h3⟩:=single_finite (x:=x) h
 have h4:mv m e≤mv (2 ^ 24) e:=mv_le.2 (by omega)
 rw[mv_pow] at h4
 exact Rat.le_trans h4 (p2_le (by omega))
end Go.Desk
end
section
namespace Go.Desk
open Go
def Rep (k:FloatKind) (B:Rat):Prop:=∃ s C,Rep0 k C∧B=sg s C
theorem sg_false (v:Rat):sg false v=v:=rfl
theorem sg_true (v:Rat):sg true v = -v:=rfl
theorem rep0_nonneg {k:FloatKind} {B:Rat} (h:Rep0 k B):0≤B:=by
 obtain ⟨M,P,-,-,rfl⟩:=h;exact mv_nonneg _ _
theorem Rep0.rep {k:FloatKind} {B:Rat} (h:Rep0 k B):Rep k B:=⟨false,B,h,rfl⟩
theorem Rep0.neg {k:FloatKind} {B:Rat} (h:Rep0 k B):Rep k (-B):=⟨true,B,h,rfl⟩
def Val (k:FloatKind) (x:Nat) (v:Rat):Prop:=∃ s m e,k.decode x = .number s m e∧v=sg s (mv m e)∧m≤2 * k.format.binade∧k.format.leastPlace≤e
theorem Val.rep {k:FloatKind} {x:Nat} {v:Rat} (h:Val k x v):Rep k v:=by
 obtain ⟨s,m,e,-,rfl,h1,h2⟩:=h
 exact ⟨s,_,⟨m,e,h1,h2,rfl⟩,rfl⟩
theorem Val.inj {k:FloatKind} {x:Nat} {v w:Rat} (h:Val k x v) (h':Val k x w):v=w:=by
 obtain ⟨s,m,e,h1,rfl,-⟩:=h
 obtain ⟨s',m',e',h2,rfl,-⟩:=h'
 rw[h1] at h2;cases h2;rfl
def Near (k:FloatKind) (v R:Rat):Prop:=∀ B,Rep k B→(v≤B→R≤B)∧(B≤v→B≤R)
theorem write_val (k:FloatKind) (s:Bool) (m:Nat) (e:Int) {B0:Rat} (hB0:Rep0 k B0) (hv:mv m e≤B0) (hf:B0<p2 (topE k)) :
  ∃ R,Val k (k.encode (.number s m e)) R∧Near k (sg s (mv m e)) R:=by
 obtain ⟨m',e',r1,r2,r3,r4⟩:=round_mag k s m e hB0 hv hf
 refine ⟨sg s (mv m' e'),⟨s,m',e',r1,rfl,r2,r3⟩,?_⟩
 rintro B ⟨t,C,hC,rfl⟩
 obtain ⟨c1,c2⟩:=r4 C hC
 have hC0:=rep0_nonneg hC
 have h0:=mv_nonneg m e
 have h0' :=mv_nonneg m' e'
 have hz:mv m e≤0→mv m' e'≤0:=by
  intro h
  have hz:Rep0 k 0:=⟨0,k.format.leastPlace,Nat.zero_le _,Int.le_refl _,(mv_zero _).symm⟩
  exact (r4 0 hz).1 h
 cases s <;>cases t <;>simp only[sg] <;>constructor <;>intro h <;>simp only[Bool.false_eq_true,if_false,if_true] at * <;>grind
theorem Val.near_eq {k:FloatKind} {x:Nat} {v R:Rat} (h:Val k x R) (hn:Near k v R) (hv:Rep k v):Val k x v:=by
 have h1:=(hn v hv).1 Rat.le_refl
 have h2:=(hn v hv).2 Rat.le_refl
 have:v=R:=by grind
 rw[this];exact h
theorem Val.num {k:FloatKind} {x:Nat} {v:Rat} (h:Val k x v):isNaN k x=false:=by
 obtain ⟨s,m,e,h1,-⟩:=h
 unfold isNaN;rw[h1];rfl
theorem signed_val (s:Bool) (m up:Nat) (b:Int):((Ieee.signed s m up:Int):Rat) * p2 b=sg s (mv m (b+(up:Int))):=by
 rw[← mv_shift]
 unfold Ieee.signed sg mv
 rw[Nat.shiftLeft_eq]
 cases s <;>simp only[Bool.false_eq_true,if_false,if_true]
 ·rw[Rat.intCast_natCast]
 ·rw[Rat.intCast_neg,Rat.intCast_natCast];grind
theorem total_val (t:Int) (c:Bool) (b:Int):sg (if t=0 then c else decide (t<0)) (mv t.natAbs b)=(t:Rat) * p2 b:=by
 by_cases h0:t=0
 ·subst h0
  rw[if_pos rfl]
  simp only[Int.natAbs_zero,mv_zero,sg,Rat.intCast_zero,Rat.zero_mul]
  cases c <;>simp
 ·rw[if_neg h0]
  by_cases h1:t<0
  ·rw[decide_eq_true h1]
   have:(t:Rat) = -((t.natAbs:Nat):Rat):=by rw[← Rat.intCast_natCast,← Rat.intCast_neg];congr 1;omega
   rw[this]
   simp only[sg,if_true,mv];grind
  ·rw[decide_eq_false h1]
   have:(t:Rat)=((t.natAbs:Nat):Rat):=by rw[← Rat.intCast_natCast];congr 1;omega
   rw[this]
   simp only[sg,Bool.false_eq_true,if_false,mv]
theorem rlt {a b c:Rat} (h1:a≤b) (h2:b<c):a<c:=by grind
theorem abs_le {s:Bool} {c B:Rat} (_:0≤c) (h1:sg s c≤B) (h2 : -B≤sg s c):c≤B:=by
 cases s <;>simp only[sg,Bool.false_eq_true,if_false,if_true] at * <;>grind
theorem add_val {k:FloatKind} {x y:Nat} {a b B:Rat} (hx:Val k x a) (hy:Val k y b) (hB:Rep0 k B) (hf:B<p2 (topE k)) (h1:a+b≤B) (h2 : -B≤a+b) :
  ∃ R,Val k (fadd k x y) R∧Near k (a+b) R:=by
 obtain ⟨s,m,i,e1,rfl,-⟩:=hx
 obtain ⟨t,n,j,e2,rfl,-⟩:=hy
 have e1:k.format.read x = .number s m i:=e1
 have e2:k.format.read y = .number t n j:=e2
 generalize hb:min i j=base
 generalize ht:Ieee.signed s m (i - base).toNat+Ieee.signed t n (j - base).toNat=total
 have hadd:fadd k x y=k.encode (.number (if total=0 then s&&t else total<0) total.natAbs base):=by
  simp only[fadd,Ieee.Format.add,e1,e2,Ieee.Datum.sum,Option.map_some,hb,ht]
  rfl
 have hval:sg (if total=0 then s&&t else decide (total<0)) (mv total.natAbs base)=sg s (mv m i)+sg t (mv n j):=by
  rw[total_val,← ht,Rat.intCast_add,Rat.add_mul,signed_val,signed_val]
  congr 2 <;>congr 1 <;>omega
 rw[hadd,← hval]
 exact write_val k _ _ _ hB (abs_le (mv_nonneg _ _) (by rw[hval];exact h1) (by rw[hval];exact h2)) hf
theorem mul_val {k:FloatKind} {x y:Nat} {a b B:Rat} (hx:Val k x a) (hy:Val k y b) (hB:Rep0 k B) (hf:B<p2 (topE k)) (h1:a * b≤B) (h2 : -B≤a * b) :
  ∃ R,Val k (fmul k x y) R∧Near k (a * b) R:=by
 obtain ⟨s,m,i,e1,rfl,-⟩:=hx
 obtain ⟨t,n,j,e2,rfl,-⟩:=hy
 have e1:k.format.read x = .number s m i:=e1
 have e2:k.format.read y = .number t n j:=e2
 have hmul:fmul k x y=k.encode (.number (s ^^ t) (m * n) (i+j)):=by
  simp only[fmul,Ieee.Format.mul,e1,e2,Ieee.Datum.product,Option.map_some]
  rfl
 have hval:sg (s ^^ t) (mv (m * n) (i+j))=sg s (mv m i) * sg t (mv n j):=by
  rw[mv_mul]
  cases s <;>cases t <;>simp[sg] <;>grind
 rw[hmul,← hval]
 exact write_val k _ _ _ hB (abs_le (mv_nonneg _ _) (by rw[hval];exact h1) (by rw[hval];exact h2)) hf
theorem order_val {k:FloatKind} {x y:Nat} {a b:Rat} (hx:Val k x a) (hy:Val k y b):(k.format.order x y=some .lt↔a<b)∧(k.format.order x y=some .eq↔a=b)∧(k.format.order x y=some .gt↔b<a):=by
 obtain ⟨s,m,i,e1,rfl,-⟩:=hx
 obtain ⟨t,n,j,e2,rfl,-⟩:=hy
 have e1:k.format.read x = .number s m i:=e1
 have e2:k.format.read y = .number t n j:=e2
 generalize hb:min i j=base
 have ha:sg s (mv m i)=((Ieee.signed s m (i - base).toNat:Int):Rat) * p2 base:=by rw[signed_val];congr 2;omega
 have hc:sg t (mv n j)=((Ieee.signed t n (j - base).toNat:Int):Rat) * p2 base:=by rw[signed_val];congr 2;omega
 rw[ha,hc]
 have ho:k.format.order x y=some (compare (Ieee.signed s m (i - base).toNat) (Ieee.signed t n (j - base).toNat)):=by
  simp only[Ieee.Format.order,e1,e2,Ieee.Datum.order,hb]
 rw[ho]
 generalize Ieee.signed s m (i - base).toNat=u
 generalize Ieee.signed t n (j - base).toNat=v
 have hlt:∀ p q:Int,(p:Rat) * p2 base<(q:Rat) * p2 base↔p<q:=fun p q=>by rw[Rat.mul_lt_mul_right (p2_pos _),Rat.intCast_lt_intCast]
 have heq:((u:Rat) * p2 base=(v:Rat) * p2 base)↔u=v:=by
  constructor
  ·intro h
   rcases Int.lt_trichotomy u v with h1 | h1 | h1
   ·have:=(hlt u v).2 h1;grind
   ·exact h1
   ·have:=(hlt v u).2 h1;grind
  ·rintro rfl;rfl
 rw[hlt,hlt,heq]
 have hc:(u<v∧compare u v = .lt)∨(u=v∧compare u v = .eq)∨(v<u∧compare u v = .gt):=by
  rcases Int.lt_trichotomy u v with h1 | h1 | h1
  ·exact .inl ⟨h1,by simp[compare,compareOfLessAndEq,h1]⟩
  ·subst h1;exact .inr (.inl ⟨rfl,by simp[compare,compareOfLessAndEq]⟩)
  ·exact .inr (.inr ⟨h1,by simp only[compare,compareOfLessAndEq];rw[if_neg (by omega),if_neg (by omega)]⟩)
 rcases hc with ⟨h,e⟩ | ⟨h,e⟩ | ⟨h,e⟩ <;>rw[e] <;>simp <;>omega
theorem fle_val {k:FloatKind} {x y:Nat} {a b:Rat} (hx:Val k x a) (hy:Val k y b):fle k x y=true↔a≤b:=by
 have h1:=(order_val hx hy).1
 have h2:=(order_val hx hy).2.1
 simp only[fle,Bool.or_eq_true,beq_iff_eq,h1,h2]
 grind
theorem fge_val {k:FloatKind} {x y:Nat} {a b:Rat} (hx:Val k x a) (hy:Val k y b):fge k x y=true↔b≤a:=by
 have h1:=(order_val hx hy).2.2
 have h2:=(order_val hx hy).2.1
 simp only[fge,Bool.or_eq_true,beq_iff_eq,h1,h2]
 grind
theorem int_val {k:FloatKind} {n:Int} (hn:n.natAbs≤2 * k.format.binade):Val k (k.nearest n) (n:Rat):=by
 have hm:Rep0 k (mv n.natAbs 0):=⟨n.natAbs,0,hn,by cases k <;>decide,rfl⟩
 have hval:sg (decide (n<0)) (mv n.natAbs 0)=(n:Rat):=by
  have:=total_val n (decide (n<0)) 0
  rw[p2_zero,Rat.mul_one] at this
  rw[← this]
  congr 1
  by_cases h:n=0
  ·rw[if_pos h]
  ·rw[if_neg h]
 have hlt:mv n.natAbs 0<p2 (topE k):=by
  have h1:mv n.natAbs 0≤mv (2 * k.format.binade) 0:=mv_le.2 hn
  cases k
  ·exact rlt h1 (by rw[show 2 * FloatKind.f32.format.binade=2 ^ 24 by decide,mv_pow];exact p2_lt (by decide))
  ·exact rlt h1 (by rw[show 2 * FloatKind.f64.format.binade=2 ^ 53 by decide,mv_pow];exact p2_lt (by decide))
 obtain ⟨R,h1,h2⟩:=write_val k (decide (n<0)) n.natAbs 0 hm Rat.le_refl hlt
 have h3:Val k (k.nearest n) R:=h1
 rw[hval] at h2
 refine h3.near_eq h2 ⟨decide (n<0),_,hm,hval.symm⟩
theorem near_sg {k:FloatKind} {Q v:Rat} (hQ:0≤Q) (hv:0≤v) (h:∀ C,Rep0 k C→(Q≤C→v≤C)∧(C≤Q→C≤v)) (s:Bool):Near k (sg s Q) (sg s v):=by
 rintro B ⟨t,C,hC,rfl⟩
 obtain ⟨c1,c2⟩:=h C hC
 have hC0:=rep0_nonneg hC
 have hz:Q≤0→v≤0:=(h 0 ⟨0,k.format.leastPlace,Nat.zero_le _,Int.le_refl _,(mv_zero _).symm⟩).1
 cases s <;>cases t <;>simp only[sg] <;>constructor <;>intro h <;>simp only[Bool.false_eq_true,if_false,if_true] at * <;>grind
theorem Near.trans {k:FloatKind} {a b c:Rat} (h:Near k a b) (h':Near k b c):Near k a c:=fun B hB=>⟨fun h1=>(h' B hB).1 ((h B hB).1 h1),fun h1=>(h' B hB).2 ((h B hB).2 h1)⟩
theorem quot_sides (k:FloatKind) {m n:Nat} {i j:Int} (hn:n≠0) {more q:Nat} {st:Bool} (hmore:k.format.fractionBits+2+n.log2≤more+m.log2) (hq:(m <<< more) / n=q) (hst:((m <<< more) % n != 0)=st) {C:Rat} (hC:Rep0 k C) :
  (mv m i≤C * mv n j→mv (2 * q+st.toNat) (i - j - more - 1)≤C)∧(C * mv n j≤mv m i→C≤mv (2 * q+st.toNat) (i - j - more - 1)):=by
 obtain ⟨-,-,-,-,-,hb⟩:=fmt k
 obtain ⟨M,P,hM,hP,rfl⟩:=hC
 generalize hu:i - j - (more:Int)=u
 rw[Nat.shiftLeft_eq] at hq hst
 generalize hdv:m * 2 ^ more=dv at hq hst
 have hmv:mv m i=mv dv (u+j):=by rw[← hdv,mv_shift];congr 1;omega
 have hdm:=Nat.div_add_mod dv n
 rw[hq] at hdm
 have hml:=Nat.mod_lt dv (Nat.pos_of_ne_zero hn)
 have hstr:(st=true→0<dv % n)∧(st=false→dv % n=0):=by
  rw[← hst]
  constructor <;>intro h <;>simp at h <;>omega
 have hst1:=Bool.toNat_le st
 have h2:∀ c,mv c u=mv (2 * c) (u - 1):=fun c=>by rw[show 2 * c=c * 2 ^ 1 by omega,mv_shift];congr 1;omega
 by_cases hPu:u≤P
 ·have hC:mv M P=mv (M * 2 ^ (P - u).toNat) u:=by rw[mv_shift];congr 1;omega
  rw[hC]
  generalize M * 2 ^ (P - u).toNat=M'
  rw[hmv,← mv_mul,mv_le,mv_le,h2 M',mv_le,mv_le]
  constructor
  ·intro h
   have h3:n * q≤n * M' :=by rw[Nat.mul_comm n M'];omega
   have h4:=Nat.le_of_mul_le_mul_left h3 (Nat.pos_of_ne_zero hn)
   cases st
   ·simp only[Bool.toNat_false];omega
   ·have h5:n * q<n * M' :=by rw[Nat.mul_comm n M'];have:=hstr.1 rfl;omega
    have h6:=Nat.lt_of_mul_lt_mul_left h5
    simp only[Bool.toNat_true];omega
  ·intro h
   have:M'≤q:=by
    rw[← hq];exact (Nat.le_div_iff_mul_le (Nat.pos_of_ne_zero hn)).2 h
   omega
 ·by_cases hm:m=0
  ·subst hm
   have hd0:dv=0:=by rw[← hdv,Nat.zero_mul]
   subst hd0
   have hq0:q=0:=by rw[← hq,Nat.zero_div]
   subst hq0
   have:st=false:=by rw[← hst];simp
   subst this
   simp only[Bool.toNat_false,Nat.mul_zero,Nat.add_zero,mv_zero]
   refine ⟨fun _=>mv_nonneg _ _,fun h => ?_⟩
   rcases Nat.eq_zero_or_pos M with h0 | h0
   ·subst h0;rw[mv_zero];exact Rat.le_refl
   ·exfalso
    rw[← mv_mul] at h
    have h5:mv 0 (P+j)<mv (M * n) (P+j):=mv_lt.2 (Nat.mul_pos h0 (Nat.pos_of_ne_zero hn))
    rw[mv_zero] at h5
    grind
  ·have hdl:2 ^ (k.format.fractionBits+2+n.log2)≤dv:=by
    have h3:2 ^ (m.log2+more)≤dv:=by
     rw[Nat.pow_add,← hdv]
     exact Nat.mul_le_mul_right _ (Nat.log2_self_le hm)
    exact Nat.le_trans (Nat.pow_le_pow_right (by decide) (by omega)) h3
   have hql:2 ^ (k.format.fractionBits+1)≤q:=by
    rw[← hq,Nat.le_div_iff_mul_le (Nat.pos_of_ne_zero hn)]
    have h4:n<2 ^ (n.log2+1):=Nat.lt_log2_self
    have h5:2 ^ (k.format.fractionBits+1) * n≤2 ^ (k.format.fractionBits+1) * 2 ^ (n.log2+1):=Nat.mul_le_mul_left _ (Nat.le_of_lt h4)
    rw[← Nat.pow_add,show k.format.fractionBits+1+(n.log2+1)=k.format.fractionBits+2+n.log2 by omega] at h5
    omega
   have hCu:mv M P≤mv (2 ^ k.format.fractionBits) u:=by
    refine Rat.le_trans (mv_le.2 hM) ?_
    rw[hb,show 2 * 2 ^ k.format.fractionBits=2 ^ (k.format.fractionBits+1) by rw[Nat.pow_succ];omega,mv_pow,mv_pow]
    exact p2_le (by omega)
   have hpw:2 ^ k.format.fractionBits<2 ^ (k.format.fractionBits+1):=by rw[Nat.pow_succ];have:=Nat.two_pow_pos k.format.fractionBits;omega
   have hle:mv M P≤mv (2 * q+st.toNat) (u - 1):=by
    refine Rat.le_trans hCu ?_
    rw[h2,mv_le];omega
   refine ⟨fun h => ?_,fun _=>hle⟩
   exfalso
   have h6:mv M P * mv n j≤mv (2 ^ k.format.fractionBits) u * mv n j:=Rat.mul_le_mul_of_nonneg_right hCu (mv_nonneg _ _)
   have h7:=Rat.le_trans h h6
   rw[hmv,← mv_mul,mv_le] at h7
   have h8:2 ^ (k.format.fractionBits+1) * n≤q * n:=Nat.mul_le_mul_right _ hql
   have h9:2 ^ k.format.fractionBits * n<2 ^ (k.format.fractionBits+1) * n:=Nat.mul_lt_mul_of_pos_right hpw (Nat.pos_of_ne_zero hn)
   rw[Nat.mul_comm q n] at h8
   omega
theorem div_val {k:FloatKind} {x y:Nat} {a b B:Rat} (hx:Val k x a) (hy:Val k y b) (hb:b≠0) (hB:Rep0 k B) (hf:B<p2 (topE k)) (h1:a / b≤B) (h2 : -B≤a / b) :
  ∃ R,Val k (fdiv k x y) R∧Near k (a / b) R:=by
 obtain ⟨s,m,i,e1,rfl,-⟩:=hx
 obtain ⟨t,n,j,e2,rfl,-⟩:=hy
 have e1:k.format.read x = .number s m i:=e1
 have e2:k.format.read y = .number t n j:=e2
 have hn:n≠0:=by
  rintro rfl
  apply hb
  rw[mv_zero];cases t <;>simp[sg]
 generalize hmo:k.format.fractionBits+2+n.log2 - m.log2=more
 generalize hq:(m <<< more) / n=q
 generalize hst:((m <<< more) % n != 0)=st
 have hdiv:fdiv k x y=k.encode (.number (s ^^ t) (2 * q+st.toNat) (i - j - more - 1)):=by
  simp only[fdiv,Ieee.Format.div,e1,e2,Ieee.Datum.quotient,if_neg hn,hmo,hq,hst,Option.map_some]
  rfl
 have hnp:0<mv n j:=by have:=(mv_lt (e:=j)).2 (Nat.pos_of_ne_zero hn);rwa [mv_zero] at this
 have hval:sg s (mv m i) / sg t (mv n j)=sg (s ^^ t) (mv m i / mv n j):=by
  cases s <;>cases t <;>simp[sg] <;>grind
 have hcan:mv m i / mv n j * mv n j=mv m i:=by rw[Rat.div_mul_cancel];grind
 have hQ:0≤mv m i / mv n j:=by
  have h3:=mv_nonneg m i
  rcases Rat.le_total (a:=0) (b:=mv m i / mv n j) with h | h
  ·exact h
  ·have h4:mv m i / mv n j * mv n j≤0 * mv n j:=Rat.mul_le_mul_of_nonneg_right h (Rat.le_of_lt hnp)
   rw[hcan,Rat.zero_mul] at h4
   have h5:mv m i=0:=by grind
   rw[h5,Rat.div_def,Rat.zero_mul];exact Rat.le_refl
 have hside:∀ C,Rep0 k C→(mv m i / mv n j≤C→mv (2 * q+st.toNat) (i - j - more - 1)≤C)∧(C≤mv m i / mv n j→C≤mv (2 * q+st.toNat) (i - j - more - 1)):=by
  intro C hC
  obtain ⟨c1,c2⟩:=quot_sides k (i:=i) (j:=j) hn (by omega) hq hst hC
  constructor
  ·intro h
   have:=Rat.mul_le_mul_of_nonneg_right h (Rat.le_of_lt hnp)
   rw[hcan] at this
   exact c1 this
  ·intro h
   have:=Rat.mul_le_mul_of_nonneg_right h (Rat.le_of_lt hnp)
   rw[hcan] at this
   exact c2 this
 rw[hval] at h1 h2 ⊢
 have hQB:=abs_le hQ h1 h2
 obtain ⟨R,r1,r2⟩:=write_val k (s ^^ t) (2 * q+st.toNat) (i - j - more - 1) hB ((hside B hB).1 hQB) hf
 rw[hdiv]
 exact ⟨R,r1,(near_sg hQ (mv_nonneg _ _) hside _).trans r2⟩
end Go.Desk
end
section
namespace Go.Desk
open Go
theorem read_val {k:FloatKind} {x:Nat} {s:Bool} {m:Nat} {e:Int} (h:k.decode x = .number s m e):Val k x (sg s (mv m e)):=by
 refine ⟨s,m,e,h,rfl,?_⟩
 obtain ⟨K,-,-,-,-,hb⟩:=fmt k
 have hbp:0<k.format.binade:=by rw[hb];exact Nat.two_pow_pos _
 have h:k.format.read x = .number s m e:=h
 unfold Ieee.Format.read at h
 by_cases c1:x % k.format.signWeight<k.format.binade
 ·simp only[if_pos c1] at h
  cases h
  exact ⟨by omega,Int.le_refl _⟩
 ·by_cases c2:x % k.format.signWeight<k.format.infRung
  ·simp only[if_neg c1,if_pos c2] at h
   cases h
   have:=Nat.mod_lt (x % k.format.signWeight) hbp
   exact ⟨by omega,by omega⟩
  ·by_cases c3:x % k.format.signWeight=k.format.infRung
   ·simp only[if_neg c1,if_neg c2,if_pos c3] at h;cases h
   ·simp only[if_neg c1,if_neg c2,if_neg c3] at h;cases h
end Go.Desk
end
section
namespace Go.Desk
open Go
theorem read_norm {k:FloatKind} {x:Nat} {s:Bool} {m:Nat} {e:Int} (h:k.decode x = .number s m e) :
  m<2 * k.format.binade∧k.format.leastPlace≤e∧(k.format.leastPlace<e→k.format.binade≤m)∧x % k.format.signWeight=(e - k.format.leastPlace).toNat * k.format.binade+m∧(x / k.format.signWeight % 2==1)=s:=by
 obtain ⟨K,-,-,-,-,hb⟩:=fmt k
 have hbp:0<k.format.binade:=by rw[hb];exact Nat.two_pow_pos _
 have h:k.format.read x = .number s m e:=h
 unfold Ieee.Format.read at h
 by_cases c1:x % k.format.signWeight<k.format.binade
 ·simp only[if_pos c1] at h
  cases h
  refine ⟨by omega,Int.le_refl _,fun h=>by omega,?_,rfl⟩
  rw[Int.sub_self];simp
 ·by_cases c2:x % k.format.signWeight<k.format.infRung
  ·simp only[if_neg c1,if_pos c2] at h
   cases h
   generalize x % k.format.signWeight=r at *
   generalize hbb:k.format.binade=b at *
   have h1:=Nat.mod_lt r hbp
   have h2:=Nat.div_add_mod r b
   have h3:1≤r / b:=(Nat.le_div_iff_mul_le hbp).2 (by omega)
   refine ⟨by omega,by omega,fun _=>by omega,?_,rfl⟩
   have h4:(k.format.leastPlace+((r / b - 1:Nat):Int) - k.format.leastPlace).toNat=r / b - 1:=by omega
   rw[h4]
   generalize r / b=q at *
   obtain ⟨q,rfl⟩:∃ p,q=p+1:=⟨q - 1,by omega⟩
   rw[Nat.mul_add] at h2
   rw[Nat.add_sub_cancel,Nat.mul_comm q b]
   omega
  ·by_cases c3:x % k.format.signWeight=k.format.infRung
   ·simp only[if_neg c1,if_neg c2,if_pos c3] at h;cases h
   ·simp only[if_neg c1,if_neg c2,if_neg c3] at h;cases h
theorem mv_norm {k:FloatKind} {m m':Nat} {e e':Int} (h1:m<2 * k.format.binade) (h1':m'<2 * k.format.binade) (h2:k.format.leastPlace≤e) (h2':k.format.leastPlace≤e') (h3:k.format.leastPlace<e→k.format.binade≤m) (h3':k.format.leastPlace<e'→k.format.binade≤m') (h:mv m e=mv m' e'):m=m'∧e=e' :=by
 have key:∀ {m m':Nat} {e e':Int},m<2 * k.format.binade→k.format.leastPlace≤e→(k.format.leastPlace<e'→k.format.binade≤m')→mv m e=mv m' e'→¬ e<e' :=by
  intro m m' e e' a1 a2 a3 a4 a5
  have e1:mv m' e'=mv (m' * 2 ^ (e' - e).toNat) e:=by rw[mv_shift];congr 1;omega
  rw[e1] at a4
  have h5:=mv_le.1 (show mv (m' * 2 ^ (e' - e).toNat) e≤mv m e by rw[a4];exact Rat.le_refl)
  have h6:=a3 (by omega)
  have h7:2 ^ 1≤2 ^ (e' - e).toNat:=Nat.pow_le_pow_right (by decide) (by omega)
  have h8:k.format.binade * 2≤m' * 2 ^ (e' - e).toNat:=Nat.mul_le_mul h6 h7
  omega
 have h4:=key h1 h2 h3' h
 have h5:=key h1' h2' h3 h.symm
 have he:e=e' :=by omega
 subst he
 refine ⟨?_,rfl⟩
 have h6:=mv_le.1 (show mv m e≤mv m' e by rw[h];exact Rat.le_refl)
 have h7:=mv_le.1 (show mv m' e≤mv m e by rw[h];exact Rat.le_refl)
 omega
theorem word_inj {k:FloatKind} {x y:Nat} {s:Bool} {m m':Nat} {e e':Int} (hx:x<2 * k.format.signWeight) (hy:y<2 * k.format.signWeight) (h:k.decode x = .number s m e) (h':k.decode y = .number s m' e') (hv:mv m e=mv m' e'):x=y:=by
 obtain ⟨a1,a2,a3,a4,a5⟩:=read_norm h
 obtain ⟨b1,b2,b3,b4,b5⟩:=read_norm h'
 obtain ⟨rfl,rfl⟩:=mv_norm a1 b1 a2 b2 a3 b3 hv
 have hp:0<k.format.signWeight:=by omega
 have h1:x % k.format.signWeight=y % k.format.signWeight:=by rw[a4,b4]
 have q1:x / k.format.signWeight<2:=(Nat.div_lt_iff_lt_mul hp).2 hx
 have q2:y / k.format.signWeight<2:=(Nat.div_lt_iff_lt_mul hp).2 hy
 rw[Nat.mod_eq_of_lt q1] at a5
 rw[Nat.mod_eq_of_lt q2] at b5
 have h2:x / k.format.signWeight=y / k.format.signWeight:=by
  have:(x / k.format.signWeight==1)=(y / k.format.signWeight==1):=by rw[a5,b5]
  generalize x / k.format.signWeight=p at *
  generalize y / k.format.signWeight=q at *
  rcases Nat.lt_or_ge p 1 with c1 | c1 <;>rcases Nat.lt_or_ge q 1 with c2 | c2
  ·omega
  ·obtain rfl:p=0:=by omega
   obtain rfl:q=1:=by omega
   cases this
  ·obtain rfl:p=1:=by omega
   obtain rfl:q=0:=by omega
   cases this
  ·omega
 rw[← Nat.div_add_mod x k.format.signWeight,← Nat.div_add_mod y k.format.signWeight,h1,h2]
theorem nearest_word (f:Ieee.Format) (s:Bool) (m:Nat) (e:Int):f.nearest s m e=f.word s (f.nearest false m e):=by
 unfold Ieee.Format.nearest
 by_cases hm:m=0
 ·rw[if_pos hm,if_pos hm];rfl
 ·rw[if_neg hm,if_neg hm];rfl
theorem nearest_pos_lt (k:FloatKind) (m:Nat) (e:Int):k.format.nearest false m e≤k.format.infRung:=by
 unfold Ieee.Format.nearest
 by_cases hm:m=0
 ·rw[if_pos hm];exact Nat.zero_le _
 ·rw[if_neg hm];exact Nat.min_le_right _ _
theorem word_lt (k:FloatKind) (s:Bool) {r:Nat} (h:r≤k.format.infRung):k.format.word s r<2 * k.format.signWeight:=by
 have:=infRung_lt k
 unfold Ieee.Format.word
 split <;>omega
theorem exact_write (k:FloatKind) (s:Bool) {m:Nat} {e:Int} (h:Rep0 k (mv m e)) (hf:mv m e<p2 (topE k)):∃ m' e',k.decode (k.encode (.number s m e)) = .number s m' e'∧mv m' e'=mv m e:=by
 obtain ⟨m',e',r1,-,-,r4⟩:=round_mag k s m e h Rat.le_refl hf
 obtain ⟨c1,c2⟩:=r4 _ h
 have h1:=c1 Rat.le_refl
 have h2:=c2 Rat.le_refl
 exact ⟨m',e',r1,by grind⟩
theorem wide_num {x:Nat} {s:Bool} {m:Nat} {e:Int} (h:FloatKind.f32.decode x = .number s m e):wide x=FloatKind.f64.encode (.number s m e)∧∃ m' e',FloatKind.f64.decode (wide x) = .number s m' e'∧mv m' e'=mv m e:=by
 obtain ⟨h1,h2,h3⟩:=single_finite (x:=x) h
 have hr:Rep0 .f64 (mv m e):=⟨m,e,Nat.le_trans (Nat.le_of_lt h1) (by decide),(show (-1074:Int)≤e by omega),rfl⟩
 obtain ⟨m',e',r1,r2⟩:=exact_write .f64 s hr (rlt (single_le h) (p2_lt (by decide)))
 have hw:=fltToFlt_wide x
 unfold fltToFlt at hw
 rw[if_neg (by decide),h] at hw
 simp only[r1,Ieee.Datum.isInfinity] at hw
 have hw:FloatKind.f64.encode (.number s m e)=wide x:=by simpa using hw
 rw[← hw]
 exact ⟨rfl,m',e',r1,r2⟩
def size32 (x:Nat):Nat:=if isNaN .f32 x then qnan .f32 else x % 2147483648
theorem decode_size {x:Nat}:(∀ s m e,FloatKind.f32.decode x = .number s m e→FloatKind.f32.decode (x % 2147483648) = .number false m e)∧(∀ s,FloatKind.f32.decode x = .infinity s→FloatKind.f32.decode (x % 2147483648) = .infinity false):=by
 have hw:FloatKind.f32.format.signWeight=2147483648:=rfl
 have hr:x % 2147483648 % FloatKind.f32.format.signWeight=x % FloatKind.f32.format.signWeight:=by rw[hw,Nat.mod_mod]
 have hs:(x % 2147483648 / FloatKind.f32.format.signWeight % 2==1)=false:=by
  rw[hw,Nat.div_eq_of_lt (Nat.mod_lt _ (by decide))];rfl
 constructor
 ·intro s m e h
  have h:FloatKind.f32.format.read x = .number s m e:=h
  show FloatKind.f32.format.read (x % 2147483648)=_
  unfold Ieee.Format.read at h ⊢
  simp only[hr,hs]
  by_cases c1:x % FloatKind.f32.format.signWeight<FloatKind.f32.format.binade
  ·simp only[if_pos c1] at h ⊢;cases h;rfl
  ·by_cases c2:x % FloatKind.f32.format.signWeight<FloatKind.f32.format.infRung
   ·simp only[if_neg c1,if_pos c2] at h ⊢;cases h;rfl
   ·by_cases c3:x % FloatKind.f32.format.signWeight=FloatKind.f32.format.infRung
    ·simp only[if_neg c1,if_neg c2,if_pos c3] at h;cases h
    ·simp only[if_neg c1,if_neg c2,if_neg c3] at h;cases h
 ·intro s h
  have h:FloatKind.f32.format.read x = .infinity s:=h
  show FloatKind.f32.format.read (x % 2147483648)=_
  unfold Ieee.Format.read at h ⊢
  simp only[hr,hs]
  by_cases c1:x % FloatKind.f32.format.signWeight<FloatKind.f32.format.binade
  ·simp only[if_pos c1] at h;cases h
  ·by_cases c2:x % FloatKind.f32.format.signWeight<FloatKind.f32.format.infRung
   ·simp only[if_neg c1,if_pos c2] at h;cases h
   ·by_cases c3:x % FloatKind.f32.format.signWeight=FloatKind.f32.format.infRung
    ·simp only[if_neg c1,if_neg c2,if_pos c3]
    ·simp only[if_neg c1,if_neg c2,if_neg c3] at h;cases h
theorem word_mod64 (s:Bool) {r:Nat} (h:r≤FloatKind.f64.format.infRung):FloatKind.f64.format.word s r % 9223372036854775808=r:=by
 have h1:FloatKind.f64.format.infRung=9218868437227405312:=rfl
 have h2:FloatKind.f64.format.signWeight=9223372036854775808:=rfl
 unfold Ieee.Format.word
 rw[h2]
 rw[h1] at h
 split <;>omega
theorem wide_size {x:Nat} (hn:isNaN .f32 x=false):wide x % 9223372036854775808=wide (x % 2147483648)∧isNaN .f64 (wide x)=false∧wide x<18446744073709551616:=by
 have h2:(2 * FloatKind.f64.format.signWeight:Nat)=18446744073709551616:=rfl
 cases hd:FloatKind.f32.decode x with
 | nan s t=>unfold isNaN at hn;rw[hd] at hn;cases hn
 | infinity s =>
   have e1:∀ y t,FloatKind.f32.decode y = .infinity t→wide y=FloatKind.f64.encode (.infinity t):=by
    intro y t h
    have hw:=fltToFlt_wide y
    unfold fltToFlt at hw
    rw[if_neg (by decide),h] at hw
    simpa using hw.symm
   rw[e1 _ _ hd,e1 _ _ (decode_size.2 s hd)]
   cases s <;>refine ⟨by decide,by decide,by decide⟩
 | number s m e =>
   obtain ⟨w1,m',e',k1,-⟩:=wide_num hd
   obtain ⟨w2,-⟩:=wide_num (decode_size.1 s m e hd)
   refine ⟨?_,by unfold isNaN;rw[k1];rfl,?_⟩
   ·rw[w1,w2]
    show FloatKind.f64.format.nearest s m e % _=FloatKind.f64.format.nearest false m e
    rw[nearest_word,word_mod64 _ (nearest_pos_lt _ _ _)]
   ·rw[w1,← h2]
    show FloatKind.f64.format.nearest s m e<_
    rw[nearest_word]
    exact word_lt _ _ (nearest_pos_lt _ _ _)
theorem val_zero (k:FloatKind):Val k 0 0:=by
 have h:k.decode 0 = .number false 0 k.format.leastPlace:=by cases k <;>decide
 have:=read_val h
 rwa [sg_false,mv_zero] at this
theorem fne_nan (k:FloatKind) (x:Nat):fne k x x=isNaN k x:=by
 rw[fne_feq]
 cases h:isNaN k x
 ·rw[feq_self h];rfl
 ·obtain ⟨s,t,e⟩:=nan_read h
  simp[feq,Ieee.Format.order,e,Ieee.Datum.order]
theorem GoodF.lt32 {x:Nat} (h:GoodF .f32 x):x<4294967296:=by
 have:=h.2
 simpa [Lit.wf] using this
end Go.Desk
end
section
namespace Go.Desk
open Go
theorem br_t {α:Type} (x y:Option α):br true x y=x:=rfl
theorem br_f {α:Type} (x y:Option α):br false x y=y:=rfl
theorem gd_t {α:Type} (x:Option α):gd true x=x:=rfl
theorem bd_s {α β:Type} (a:α) (k:α→Option β):bd (some a) k=k a:=rfl
theorem br_not {α:Type} (b:Bool) (x y:Option α):br (!b) x y=br b y x:=by cases b <;>rfl
section
variable {p zs:List Nat} {z:Nat} {k:FloatKind}
theorem fAt_mid:fAt (fls k (p++z::zs)) p.length=z:=by simp[fAt_fls,List.getD]
theorem okAt_mid:okAt [.flt k] (fls k (p++z::zs)) p.length=true:=okAt_fls (by simp)
theorem toNat_len {α:Type} (p:List α):((p.length:Nat):Int).toNat=p.length:=rfl
end
section
variable {p zs:List Int} {z:Int} {k:IntKind}
end
section
variable {α:Type} {p zs:List α} {z:α}
theorem lt_mid:decide ((p.length:Int)<((p++z::zs).length:Int))=true:=by simp;omega
theorem in_mid:decide ((0:Int)≤(p.length:Int)∧(p.length:Int)<((p++z::zs).length:Int))=true:=by simp;omega
theorem lt_end:decide ((p.length:Int)<((p++[]).length:Int))=false:=by simp
theorem wrap_len (h:p.length<4611686018427387904):IntKind.i64.wrap ((p.length:Int)+1)=(((p++[z]).length:Nat):Int):=by rw[wrap_succ (by omega)];simp
theorem push_ok (h:p.length<2147483648):Nat.ble (p.length+1) 2147483648=true:=by rw[Nat.ble_eq];omega
end
theorem push_fls (k:FloatKind) (p:List Nat) (y:Nat):fls k p++setN (reps 1 [T.flt k 0]) 0 [T.flt k y]=fls k (p++[y]):=by simp[fls,setN,reps]
def W32 (x:Nat):Prop:=x<4294967296∧canon .f32 x=x
theorem GoodF.w32 {x:Nat} (h:GoodF .f32 x):W32 x:=⟨h.lt32,h.1⟩
theorem w32_qnan:W32 (qnan .f32):=⟨by decide,by decide⟩
theorem write_lt (k:FloatKind) {d:Ieee.Datum} (h:∀ s t,d ≠ .nan s t):k.format.write d<2 * k.format.signWeight:=by
 cases d with
 | nan s t=>exact absurd rfl (h s t)
 | infinity s=>exact word_lt k s (Nat.le_refl _)
 | number s m e =>
   show k.format.nearest s m e<_
   rw[nearest_word]
   exact word_lt k s (nearest_pos_lt k m e)
theorem w32_write {d:Ieee.Datum} (h:∀ s t,d ≠ .nan s t):W32 (FloatKind.f32.format.write d):=⟨write_lt .f32 h,canon_num (write_num h)⟩
theorem w32_fadd (x y:Nat):W32 (fadd .f32 x y):=by
 unfold fadd Ieee.Format.add
 cases h:(FloatKind.f32.format.read x).sum (FloatKind.f32.format.read y) with
 | none=>exact w32_qnan
 | some d=>exact w32_write (fun s t e=>sum_not_nan h s t e)
theorem w32_fsub (x y:Nat):W32 (fsub .f32 x y):=by
 unfold fsub Ieee.Format.sub
 cases h:(FloatKind.f32.format.read x).sum (FloatKind.f32.format.read y).opposite with
 | none=>exact w32_qnan
 | some d=>exact w32_write (fun s t e=>sum_not_nan h s t e)
theorem w32_fmul (x y:Nat):W32 (fmul .f32 x y):=by
 unfold fmul Ieee.Format.mul
 cases h:(FloatKind.f32.format.read x).product (FloatKind.f32.format.read y) with
 | none=>exact w32_qnan
 | some d=>exact w32_write (fun s t e=>product_not_nan h s t e)
theorem w32_fdiv (x y:Nat):W32 (fdiv .f32 x y):=by
 unfold fdiv Ieee.Format.div
 cases h:(FloatKind.f32.format.read x).quotient (FloatKind.f32.format.fractionBits+2) (FloatKind.f32.format.read y) with
 | none=>exact w32_qnan
 | some d=>exact w32_write (fun s t e=>quotient_not_nan h s t e)
theorem w32_canon {x:Nat} (h:x<4294967296):W32 (canon .f32 x):=by
 unfold canon
 split
 ·exact w32_qnan
 ·rename_i hn
  exact ⟨h,by rw[canon_num (by simpa using hn)]⟩
theorem w32_zero:W32 0:=⟨by decide,by decide⟩
def Bytes (bs:List Int):Prop:=∀ b∈bs,0≤b∧b≤255
theorem bytes_of {bs:List Int} (h:∀ b∈bs,GoodI .u8 b):Bytes bs:=fun b hb=>by
 have:=h b hb
 unfold GoodI at this
 have e1:IntKind.u8.min=0:=by decide
 have e2:IntKind.u8.max=255:=by decide
 omega
theorem u64_wrap_nat (n:Nat):IntKind.u64.wrap (n:Int)=(n:Int) % 18446744073709551616:=by simp[IntKind.wrap,IntKind.bits,IntKind.signed]
theorem u32_wrap {i:Int} (h0:0≤i) (h1:i<4294967296):IntKind.u32.wrap i=i:=by
 rw[show IntKind.u32.wrap i=i % 4294967296 by simp[IntKind.wrap,IntKind.bits,IntKind.signed]]
 omega
theorem and255 (x:Int):0≤IntKind.i64.wrap (intBits BinOp.and IntKind.u64 x 255)∧IntKind.i64.wrap (intBits BinOp.and IntKind.u64 x 255)≤255:=by
 have h:(BitVec.ofInt 64 x &&& BitVec.ofInt 64 255).toNat≤255:=by
  rw[BitVec.toNat_and,show (BitVec.ofInt 64 255).toNat=255 by decide]
  exact Nat.and_le_right
 have e:intBits BinOp.and IntKind.u64 x 255=(((BitVec.ofInt 64 x &&& BitVec.ofInt 64 255).toNat:Nat):Int):=by
  show IntKind.u64.wrap (((BitVec.ofInt 64 x &&& BitVec.ofInt 64 255).toNat:Nat):Int)=_
  rw[u64_wrap_nat];omega
 rw[e,wrap64] <;>omega
def Plain (x:Nat):Prop:=∃ m:Int,(-64≤m∧m≤64)∧(x=fdiv .f32 (FloatKind.f32.nearest m) 1088421888∨x=fdiv .f32 (FloatKind.f32.nearest m) 1098907648)
theorem Plain.w32 {x:Nat} (h:Plain x):W32 x:=by
 obtain ⟨m,-,rfl | rfl⟩:=h <;>exact w32_fdiv _ _
section
variable {σ α β:Type}
def scan (f:σ→α→β × σ):σ→List α→List β × σ
 | s,[]=>([],s)
 | s,x::xs=>((f s x).1::(scan f (f s x).2 xs).1,(scan f (f s x).2 xs).2)
theorem scan_length (f:σ→α→β × σ):∀ (s:σ) (xs:List α),(scan f s xs).1.length=xs.length
 | s,[]=>rfl
 | s,x::xs=>by simp only[scan,List.length_cons,scan_length f _ xs]
end
end Go.Desk
end
section
namespace Go.Desk
open Go
def magOf (k:FloatKind) (x:Nat):Nat:=x % k.format.signWeight
def negOf (k:FloatKind) (x:Nat):Bool:=x / k.format.signWeight % 2==1
def key (k:FloatKind) (x:Nat):Int:=if negOf k x then -(magOf k x:Int) else (magOf k x:Int)
theorem binade_pos (k:FloatKind):0<k.format.binade:=by cases k <;>decide
theorem read_inf {k:FloatKind} {x:Nat} {s:Bool} (h:k.decode x = .infinity s):magOf k x=k.format.infRung∧negOf k x=s:=by
 have h:k.format.read x = .infinity s:=h
 unfold Ieee.Format.read at h
 by_cases c1:x % k.format.signWeight<k.format.binade
 ·simp only[if_pos c1] at h;cases h
 ·by_cases c2:x % k.format.signWeight<k.format.infRung
  ·simp only[if_neg c1,if_pos c2] at h;cases h
  ·by_cases c3:x % k.format.signWeight=k.format.infRung
   ·simp only[if_neg c1,if_neg c2,if_pos c3] at h;cases h;exact ⟨c3,rfl⟩
   ·simp only[if_neg c1,if_neg c2,if_neg c3] at h;cases h
theorem read_fin {k:FloatKind} {x:Nat} {s:Bool} {m:Nat} {e:Int} (h:k.decode x = .number s m e):magOf k x<k.format.infRung∧negOf k x=s:=by
 refine ⟨?_,(read_norm h).2.2.2.2⟩
 have h:k.format.read x = .number s m e:=h
 unfold Ieee.Format.read at h
 have hb:k.format.binade<k.format.infRung:=by cases k <;>decide
 by_cases c1:x % k.format.signWeight<k.format.binade
 ·unfold magOf;omega
 ·by_cases c2:x % k.format.signWeight<k.format.infRung
  ·exact c2
  ·by_cases c3:x % k.format.signWeight=k.format.infRung
   ·simp only[if_neg c1,if_neg c2,if_pos c3] at h;cases h
   ·simp only[if_neg c1,if_neg c2,if_neg c3] at h;cases h
theorem mag_lt {k:FloatKind} {x y:Nat} {s t:Bool} {m n:Nat} {i j:Int} (h:k.decode x = .number s m i) (h':k.decode y = .number t n j) (hl:magOf k x<magOf k y):mv m i<mv n j:=by
 obtain ⟨a1,a2,a3,a4,-⟩:=read_norm h
 obtain ⟨b1,b2,b3,b4,-⟩:=read_norm h'
 unfold magOf at hl
 rw[a4,b4] at hl
 have hB:=binade_pos k
 generalize k.format.binade=B at *
 generalize k.format.leastPlace=L at *
 rcases Int.lt_trichotomy i j with hij | rfl | hij
 ·have e1:mv n j=mv (n * 2 ^ (j - i).toNat) i:=by rw[mv_shift];congr 1;omega
  rw[e1,mv_lt]
  have h6:=b3 (by omega)
  have h7:2 ^ 1≤2 ^ (j - i).toNat:=Nat.pow_le_pow_right (by decide) (by omega)
  have h8:B * 2≤n * 2 ^ (j - i).toNat:=Nat.mul_le_mul h6 h7
  omega
 ·rw[mv_lt];omega
 ·exfalso
  have h6:=a3 (by omega)
  have:(i - L).toNat=(j - L).toNat+(i - j).toNat:=by omega
  rw[this,Nat.add_mul] at hl
  have:B≤(i - j).toNat * B:=Nat.le_mul_of_pos_left B (by omega)
  omega
theorem mag_eq {k:FloatKind} {x y:Nat} {s t:Bool} {m n:Nat} {i j:Int} (h:k.decode x = .number s m i) (h':k.decode y = .number t n j) (hl:magOf k x=magOf k y):mv m i=mv n j:=by
 obtain ⟨a1,a2,a3,a4,-⟩:=read_norm h
 obtain ⟨b1,b2,b3,b4,-⟩:=read_norm h'
 unfold magOf at hl
 rw[a4,b4] at hl
 have hB:=binade_pos k
 generalize k.format.binade=B at *
 generalize k.format.leastPlace=L at *
 have:i=j:=by
  rcases Int.lt_trichotomy i j with hij | e | hij
  ·exfalso
   have h6:=b3 (by omega)
   have:(j - L).toNat=(i - L).toNat+(j - i).toNat:=by omega
   rw[this,Nat.add_mul] at hl
   have:B≤(j - i).toNat * B:=Nat.le_mul_of_pos_left B (by omega)
   omega
  ·exact e
  ·exfalso
   have h6:=a3 (by omega)
   have:(i - L).toNat=(j - L).toNat+(i - j).toNat:=by omega
   rw[this,Nat.add_mul] at hl
   have:B≤(i - j).toNat * B:=Nat.le_mul_of_pos_left B (by omega)
   omega
 subst this
 have:m=n:=by omega
 rw[this]
theorem mag_zero {k:FloatKind} {x:Nat} {s:Bool} {m:Nat} {i:Int} (h:k.decode x = .number s m i):(magOf k x=0↔mv m i=0):=by
 obtain ⟨a1,a2,a3,a4,-⟩:=read_norm h
 have hB:=binade_pos k
 unfold magOf
 rw[a4]
 constructor
 ·intro h0
  have:m=0:=by omega
  rw[this,mv_zero]
 ·intro h0
  have hm:m=0:=by
   rcases Nat.eq_zero_or_pos m with e | e
   ·exact e
   ·have h1:mv 0 i<mv m i:=mv_lt.2 e
    rw[mv_zero,h0] at h1
    exact absurd h1 (by decide)
  subst hm
  have:¬ k.format.leastPlace<i:=fun h1=>by have:=a3 h1;omega
  have:(i - k.format.leastPlace).toNat=0:=by omega
  rw[this];simp
theorem compare_int (a b:Int):(a<b∧compare a b = .lt)∨(a=b∧compare a b = .eq)∨(b<a∧compare a b = .gt):=by
 rcases Int.lt_trichotomy a b with h1 | h1 | h1
 ·exact .inl ⟨h1,by simp[compare,compareOfLessAndEq,h1]⟩
 ·subst h1;exact .inr (.inl ⟨rfl,by simp[compare,compareOfLessAndEq]⟩)
 ·exact .inr (.inr ⟨h1,by simp only[compare,compareOfLessAndEq];rw[if_neg (by omega),if_neg (by omega)]⟩)
theorem key_lt_val {k:FloatKind} {x y:Nat} {s t:Bool} {m n:Nat} {i j:Int} (h:k.decode x = .number s m i) (h':k.decode y = .number t n j) (hl:key k x<key k y):sg s (mv m i)<sg t (mv n j):=by
 have hs:=(read_fin h).2
 have ht:=(read_fin h').2
 unfold key at hl
 rw[hs,ht] at hl
 have z1:=mag_zero h
 have z2:=mag_zero h'
 have p1:=mv_nonneg m i
 have p2:=mv_nonneg n j
 cases s <;>cases t <;>simp only[Bool.false_eq_true,if_false,if_true,sg] at hl ⊢
 ·exact mag_lt h h' (by omega)
 ·omega
 ·rcases Nat.eq_zero_or_pos (magOf k y) with e | e
  ·have:0<magOf k x:=by omega
   have:mv m i≠0:=fun h0=>by rw[z1.2 h0] at this;omega
   have h0:=z2.1 e
   rw[h0];grind
  ·have:mv n j≠0:=fun h0=>by rw[z2.2 h0] at e;omega
   grind
 ·have:=mag_lt h' h (by omega)
  grind
theorem key_eq_val {k:FloatKind} {x y:Nat} {s t:Bool} {m n:Nat} {i j:Int} (h:k.decode x = .number s m i) (h':k.decode y = .number t n j) (hl:key k x=key k y):sg s (mv m i)=sg t (mv n j):=by
 have hs:=(read_fin h).2
 have ht:=(read_fin h').2
 unfold key at hl
 rw[hs,ht] at hl
 have z1:=mag_zero h
 have z2:=mag_zero h'
 cases s <;>cases t <;>simp only[Bool.false_eq_true,if_false,if_true,sg] at hl ⊢
 ·exact mag_eq h h' (by omega)
 ·rw[z1.1 (by omega),z2.1 (by omega)];rfl
 ·rw[z1.1 (by omega),z2.1 (by omega)];rfl
 ·rw[mag_eq h h' (by omega)]
theorem order_key {k:FloatKind} {x y:Nat} (hx:isNaN k x=false) (hy:isNaN k y=false):k.format.order x y=some (compare (key k x) (key k y)):=by
 have inf_pos:∀ {z:Nat} {s:Bool},k.decode z = .infinity s→key k z=if s then -(k.format.infRung:Int) else (k.format.infRung:Int):=by
  intro z s h
  obtain ⟨h1,h2⟩:=read_inf h
  unfold key;rw[h1,h2]
 have fin_lt:∀ {z:Nat} {s:Bool} {m:Nat} {e:Int},k.decode z = .number s m e → -(k.format.infRung:Int)<key k z∧key k z<(k.format.infRung:Int):=by
  intro z s m e h
  obtain ⟨h1,h2⟩:=read_fin h
  unfold key;rw[h2]
  cases s <;>simp only[Bool.false_eq_true,if_false,if_true] <;>omega
 have hI:(0:Int)<(k.format.infRung:Int):=by cases k <;>decide
 have lt_c:∀ a b:Int,a<b→compare a b = .lt:=fun a b h=>by rcases compare_int a b with ⟨h1,e⟩ | ⟨h1,e⟩ | ⟨h1,e⟩ <;>first | exact e | omega
 have gt_c:∀ a b:Int,b<a→compare a b = .gt:=fun a b h=>by rcases compare_int a b with ⟨h1,e⟩ | ⟨h1,e⟩ | ⟨h1,e⟩ <;>first | exact e | omega
 have eq_c:∀ a b:Int,a=b→compare a b = .eq:=fun a b h=>by rcases compare_int a b with ⟨h1,e⟩ | ⟨h1,e⟩ | ⟨h1,e⟩ <;>first | exact e | omega
 unfold isNaN at hx hy
 cases h1:k.decode x with
 | nan s f=>rw[h1] at hx;simp[Ieee.Datum.isNaN] at hx
 | infinity s =>
   cases h2:k.decode y with
   | nan s f=>rw[h2] at hy;simp[Ieee.Datum.isNaN] at hy
   | infinity t =>
     have e1:k.format.read x = .infinity s:=h1
     have e2:k.format.read y = .infinity t:=h2
     simp only[Ieee.Format.order,e1,e2,Ieee.Datum.order]
     rw[inf_pos h1,inf_pos h2]
     cases s <;>cases t <;>simp only[Bool.false_eq_true,if_false,if_true]
     ·rw[eq_c _ _ rfl];rfl
     ·rw[gt_c _ _ (by omega)];rfl
     ·rw[lt_c _ _ (by omega)];rfl
     ·rw[eq_c _ _ rfl];rfl
   | number t n j =>
     have e1:k.format.read x = .infinity s:=h1
     have e2:k.format.read y = .number t n j:=h2
     have:=fin_lt h2
     simp only[Ieee.Format.order,e1,e2,Ieee.Datum.order]
     rw[inf_pos h1]
     cases s <;>simp only[Bool.false_eq_true,if_false,if_true]
     ·rw[gt_c _ _ (by omega)]
     ·rw[lt_c _ _ (by omega)]
 | number s m i =>
   cases h2:k.decode y with
   | nan s f=>rw[h2] at hy;simp[Ieee.Datum.isNaN] at hy
   | infinity t =>
     have e1:k.format.read x = .number s m i:=h1
     have e2:k.format.read y = .infinity t:=h2
     have:=fin_lt h1
     simp only[Ieee.Format.order,e1,e2,Ieee.Datum.order]
     rw[inf_pos h2]
     cases t <;>simp only[Bool.false_eq_true,if_false,if_true]
     ·rw[lt_c _ _ (by omega)]
     ·rw[gt_c _ _ (by omega)]
   | number t n j =>
     obtain ⟨o1,o2,o3⟩:=order_val (read_val h1) (read_val h2)
     rcases compare_int (key k x) (key k y) with ⟨h3,e⟩ | ⟨h3,e⟩ | ⟨h3,e⟩
     ·rw[e];exact o1.2 (key_lt_val h1 h2 h3)
     ·rw[e];exact o2.2 (key_eq_val h1 h2 h3)
     ·rw[e];exact o3.2 (key_lt_val h2 h1 h3)
section
variable {k:FloatKind} {x y:Nat}
theorem order_nan (h:isNaN k x=true∨isNaN k y=true):k.format.order x y=none:=by
 unfold isNaN FloatKind.decode at h
 unfold Ieee.Format.order
 rcases h with h | h
 ·cases hr:k.format.read x with
  | nan s t=>simp[Ieee.Datum.order]
  | infinity s=>rw[hr] at h;cases h
  | number s m e=>rw[hr] at h;cases h
 ·cases hr:k.format.read y with
  | nan s t=>cases k.format.read x <;>simp[Ieee.Datum.order]
  | infinity s=>rw[hr] at h;cases h
  | number s m e=>rw[hr] at h;cases h
def num2 (k:FloatKind) (x y:Nat):Bool:=!isNaN k x && !isNaN k y
theorem order_num2:k.format.order x y=if num2 k x y then some (compare (key k x) (key k y)) else none:=by
 unfold num2
 cases hx:isNaN k x
 ·cases hy:isNaN k y
  ·exact order_key hx hy
  ·exact order_nan (.inr hy)
 ·exact order_nan (.inl hx)
theorem flt_key:flt k x y=(num2 k x y&&decide (key k x<key k y)):=by
 unfold flt
 rw[order_num2]
 cases num2 k x y
 ·rfl
 ·rcases compare_int (key k x) (key k y) with ⟨h,e⟩ | ⟨h,e⟩ | ⟨h,e⟩ <;>rw[if_pos rfl,e] <;>simp <;>omega
theorem fgt_key:fgt k x y=(num2 k x y&&decide (key k y<key k x)):=by
 unfold fgt
 rw[order_num2]
 cases num2 k x y
 ·rfl
 ·rcases compare_int (key k x) (key k y) with ⟨h,e⟩ | ⟨h,e⟩ | ⟨h,e⟩ <;>rw[if_pos rfl,e] <;>simp <;>omega
theorem feq_key:feq k x y=(num2 k x y&&decide (key k x=key k y)):=by
 unfold feq
 rw[order_num2]
 cases num2 k x y
 ·rfl
 ·rcases compare_int (key k x) (key k y) with ⟨h,e⟩ | ⟨h,e⟩ | ⟨h,e⟩ <;>rw[if_pos rfl,e] <;>simp <;>omega
theorem fle_key:fle k x y=(num2 k x y&&decide (key k x≤key k y)):=by
 unfold fle
 rw[order_num2]
 cases num2 k x y
 ·rfl
 ·rcases compare_int (key k x) (key k y) with ⟨h,e⟩ | ⟨h,e⟩ | ⟨h,e⟩ <;>rw[if_pos rfl,e] <;>simp <;>omega
theorem fge_key:fge k x y=(num2 k x y&&decide (key k y≤key k x)):=by
 unfold fge
 rw[order_num2]
 cases num2 k x y
 ·rfl
 ·rcases compare_int (key k x) (key k y) with ⟨h,e⟩ | ⟨h,e⟩ | ⟨h,e⟩ <;>rw[if_pos rfl,e] <;>simp <;>omega
theorem fne_key:fne k x y = !(num2 k x y&&decide (key k x=key k y)):=by rw[fne_feq,feq_key]
end
theorem key32 {x:Nat} (h:x<4294967296):key .f32 x=if x<2147483648 then (x:Int) else -((x:Int) - 2147483648):=by
 have hw:FloatKind.f32.format.signWeight=2147483648:=rfl
 unfold key negOf magOf
 rw[hw]
 by_cases c:x<2147483648
 ·rw[if_pos c,Nat.div_eq_of_lt c,Nat.mod_eq_of_lt c];rfl
 ·have:x / 2147483648=1:=by omega
  rw[if_neg c,this,if_pos (by decide)]
  omega
theorem nan32 {x:Nat}:isNaN .f32 x=decide (2139095040<x % 2147483648):=isNaN_f32 x
end Go.Desk
end
section
namespace Go.Desk
open Go
def flushM (x:Nat):Nat:=if x % 2147483648<8388608 then x / 2147483648 * 2147483648 else x
def sub32 (x:Nat):Bool:=decide (0<x % 2147483648∧x % 2147483648<8388608)
theorem w32_flush {x:Nat} (h:W32 x):W32 (flushM x):=by
 unfold flushM
 split
 ·have:=h.1
  refine ⟨by omega,canon_num ?_⟩
  rw[nan32];simp
 ·exact h
theorem sub_key {x:Nat} (h:x<4294967296):(fne .f32 x 0&&(flt .f32 x 8388608&&fgt .f32 x 2155872256))=sub32 x:=by
 have e0:isNaN .f32 0=false:=by decide
 have e1:isNaN .f32 8388608=false:=by decide
 have e2:isNaN .f32 2155872256=false:=by decide
 rw[fne_key,flt_key,fgt_key]
 unfold num2
 rw[e0,e1,e2,key32 h,key32 (show 0<4294967296 by decide),key32 (show 8388608<4294967296 by decide),key32 (show 2155872256<4294967296 by decide)]
 unfold sub32
 cases hn:isNaN .f32 x
 ·rw[Bool.eq_iff_iff]
  simp
  split <;>omega
 ·rw[nan32] at hn
  simp at hn
  rw[Bool.eq_iff_iff]
  simp
  omega
theorem wide_sign {x:Nat} (h:x<4294967296) (hn:isNaN .f32 x=false):wide x / 9223372036854775808=x / 2147483648:=by
 obtain ⟨-,h2,h3⟩:=wide_size hn
 have hs:(wide x / 9223372036854775808 % 2==1)=(x / 2147483648 % 2==1):=by
  cases hd:FloatKind.f32.decode x with
  | nan s t=>unfold isNaN at hn;rw[hd] at hn;cases hn
  | infinity s =>
    have e1:=(read_inf hd).2
    have e2:wide x=FloatKind.f64.encode (.infinity s):=by unfold wide fltToFlt;rw[if_neg (by decide),hd]
    have e3:FloatKind.f64.decode (wide x) = .infinity s:=by rw[e2];cases s <;>decide
    have e4:=(read_inf e3).2
    exact e4.trans e1.symm
  | number s m e =>
    have e1:=(read_fin hd).2
    obtain ⟨-,m',e',e3,-⟩:=wide_num hd
    have e4:=(read_fin e3).2
    exact e4.trans e1.symm
 rw[Bool.eq_iff_iff] at hs
 simp only[beq_iff_eq] at hs
 omega
theorem narrow_zero:fltToFlt .f64 0 .f32=some 0∧fltToFlt .f64 9223372036854775808 .f32=some 2147483648:=by decide
theorem copy_zero (n:Nat) {x:Nat} (h:x<4294967296) (hn:isNaN .f32 x=false):∃ y,xCopysign (n+1) 0 (wide x)=some y∧fltToFlt .f64 y .f32=some (x / 2147483648 * 2147483648):=by
 obtain ⟨-,h2,h3⟩:=wide_size hn
 have hs:=wide_sign h hn
 have e0:isNaN .f64 0=false:=by decide
 refine ⟨wide x / 9223372036854775808 * 9223372036854775808,?_,?_⟩
 ·show (if isNaN .f64 (wide x) then none else if isNaN .f64 0 then none else if 0<18446744073709551616∧wide x<18446744073709551616 then some (0 % 9223372036854775808+wide x / 9223372036854775808 * 9223372036854775808) else none)=_
  rw[h2,e0,if_neg (by decide),if_neg (by decide),if_pos ⟨by decide,h3⟩]
  simp
 ·rw[hs]
  have:x / 2147483648=0∨x / 2147483648=1:=by omega
  rcases this with e | e <;>rw[e]
  ·exact narrow_zero.1
  ·exact narrow_zero.2
abbrev Filt:=Nat × Nat × Nat × Nat × Nat
abbrev Mem:=Nat × Nat × Nat × Nat
def fl? (b:Bool) (x:Nat):Nat:=if b then flushM x else x
theorem w32_fl? {b:Bool} {x:Nat} (h:W32 x):W32 (fl? b x):=by
 unfold fl?;split
 ·exact w32_flush h
 ·exact h
def WMem (m:Mem):Prop:=W32 m.1∧W32 m.2.1∧W32 m.2.2.1∧W32 m.2.2.2
def fstep (f:Filt) (form:Int) (b:Bool) (m:Mem) (x:Nat):Nat × Mem :=
 if form=0 then
  let y:=fl? b (fsub .f32 (fsub .f32 (fadd .f32 (fadd .f32 (fmul .f32 f.1 x) (fmul .f32 f.2.1 m.1)) (fmul .f32 f.2.2.1 m.2.1)) (fmul .f32 f.2.2.2.1 m.2.2.1)) (fmul .f32 f.2.2.2.2 m.2.2.2))
  (y,fl? b x,fl? b m.1,fl? b y,fl? b m.2.2.1)
 else if form=1 then
  let y:=fl? b (fadd .f32 (fmul .f32 f.1 x) m.1)
  (y,fl? b (fadd .f32 (fsub .f32 (fmul .f32 f.2.1 x) (fmul .f32 f.2.2.2.1 y)) m.2.1),fl? b (fsub .f32 (fmul .f32 f.2.2.1 x) (fmul .f32 f.2.2.2.2 y)),fl? b 0,fl? b 0)
 else
  let w:=fl? b (fsub .f32 (fsub .f32 x (fmul .f32 f.2.2.2.1 m.1)) (fmul .f32 f.2.2.2.2 m.2.1))
  (fl? b (fadd .f32 (fadd .f32 (fmul .f32 f.1 w) (fmul .f32 f.2.1 m.1)) (fmul .f32 f.2.2.1 m.2.1)),fl? b w,fl? b m.1,fl? b 0,fl? b 0)
theorem fstep_w32 {f:Filt} {form:Int} {b:Bool} {m:Mem} {x:Nat} (hm:WMem m) (hx:W32 x):W32 (fstep f form b m x).1∧WMem (fstep f form b m x).2:=by
 obtain ⟨m1,m2,m3,m4⟩:=hm
 unfold fstep
 split
 ·exact ⟨w32_fl? (w32_fsub _ _),w32_fl? hx,w32_fl? m1,w32_fl? (w32_fl? (w32_fsub _ _)),w32_fl? m3⟩
 ·split
  ·exact ⟨w32_fl? (w32_fadd _ _),w32_fl? (w32_fadd _ _),w32_fl? (w32_fsub _ _),w32_fl? w32_zero,w32_fl? w32_zero⟩
  ·exact ⟨w32_fl? (w32_fadd _ _),w32_fl? (w32_fl? (w32_fsub _ _)),w32_fl? m1,w32_fl? w32_zero,w32_fl? w32_zero⟩
section
variable {σ α β:Type} {f:σ→α→β × σ} {P:σ→Prop} {Q:α→Prop} {S:β→Prop}
theorem scan_inv (hf:∀ s x,P s→Q x→S (f s x).1∧P (f s x).2):∀ (xs:List α) (s:σ),P s→(∀ x∈xs,Q x)→(∀ y∈(scan f s xs).1,S y)∧P (scan f s xs).2
 | [],s,hs,_=>⟨by simp[scan],hs⟩
 | x::xs,s,hs,hx=>by
   obtain ⟨h1,h2⟩:=hf s x hs (hx x (by simp))
   obtain ⟨h3,h4⟩:=scan_inv hf xs _ h2 (fun y hy=>hx y (by simp[hy]))
   refine ⟨?_,h4⟩
   intro y hy
   simp only[scan,List.mem_cons] at hy
   rcases hy with rfl | hy
   ·exact h1
   ·exact h3 y hy
end
end Go.Desk
end
section
namespace Go.Desk
open Go
def fin32 (x:Nat):Bool:=decide (x % 2147483648<2139095040)
theorem fin_num {x:Nat} (h:fin32 x=true):isNaN .f32 x=false:=by
 unfold fin32 at h;rw[nan32];simp at h ⊢;omega
theorem fin_read {x:Nat} (h:fin32 x=true):∃ s m e,FloatKind.f32.decode x = .number s m e:=by
 cases hd:FloatKind.f32.decode x with
 | number s m e=>exact ⟨s,m,e,rfl⟩
 | infinity s =>
   have h1:=(read_inf hd).1
   unfold fin32 at h
   have e1:FloatKind.f32.format.infRung=2139095040:=by decide
   have e2:magOf .f32 x=x % 2147483648:=rfl
   simp at h
   omega
 | nan s t =>
   have:=fin_num h
   unfold isNaN at this
   rw[hd] at this;cases this
end Go.Desk
end
section
namespace Go.Desk
open Go
theorem sub_val {k:FloatKind} {x y:Nat} {a b B:Rat} (hx:Val k x a) (hy:Val k y b) (hB:Rep0 k B) (hf:B<p2 (topE k)) (h1:a - b≤B) (h2 : -B≤a - b) :
  ∃ R,Val k (fsub k x y) R∧Near k (a - b) R:=by
 obtain ⟨s,m,i,e1,rfl,-⟩:=hx
 obtain ⟨t,n,j,e2,rfl,-⟩:=hy
 have e1:k.format.read x = .number s m i:=e1
 have e2:k.format.read y = .number t n j:=e2
 generalize hb:min i j=base
 generalize ht:Ieee.signed s m (i - base).toNat+Ieee.signed (!t) n (j - base).toNat=total
 have hadd:fsub k x y=k.encode (.number (if total=0 then s && !t else total<0) total.natAbs base):=by
  simp only[fsub,Ieee.Format.sub,e1,e2,Ieee.Datum.opposite,Ieee.Datum.sum,Option.map_some,hb,ht]
  rfl
 have hneg:sg (!t) (mv n j) = -sg t (mv n j):=by cases t <;>simp[sg]
 have hval:sg (if total=0 then s && !t else decide (total<0)) (mv total.natAbs base)=sg s (mv m i) - sg t (mv n j):=by
  rw[Rat.sub_eq_add_neg,← hneg,total_val,← ht,Rat.intCast_add,Rat.add_mul,signed_val,signed_val]
  congr 2 <;>congr 1 <;>omega
 rw[hadd,← hval]
 exact write_val k _ _ _ hB (abs_le (mv_nonneg _ _) (by rw[hval];exact h1) (by rw[hval];exact h2)) hf
theorem write_lt2 (k:FloatKind) (s:Bool) (m:Nat) (e:Int):k.encode (.number s m e)<2 * k.format.signWeight:=write_lt k (by intro _ _ h;cases h)
theorem fadd_lt (k:FloatKind) (x y:Nat):fadd k x y<2 * k.format.signWeight:=by
 unfold fadd Ieee.Format.add
 cases h:(k.format.read x).sum (k.format.read y) with
 | none=>cases k <;>decide
 | some d=>exact write_lt k (fun s t e=>sum_not_nan h s t e)
theorem fmul_lt (k:FloatKind) (x y:Nat):fmul k x y<2 * k.format.signWeight:=by
 unfold fmul Ieee.Format.mul
 cases h:(k.format.read x).product (k.format.read y) with
 | none=>cases k <;>decide
 | some d=>exact write_lt k (fun s t e=>product_not_nan h s t e)
theorem nearest_lt (k:FloatKind) (n:Int):k.nearest n<2 * k.format.signWeight:=write_lt2 k _ _ _
theorem word_of_val {k:FloatKind} {x y:Nat} {a:Rat} (hx:x<2 * k.format.signWeight) (hy:y<2 * k.format.signWeight) (h1:Val k x a) (h2:Val k y a) (ha:a≠0):x=y:=by
 obtain ⟨s,m,i,e1,h3,-⟩:=h1
 obtain ⟨t,n,j,e2,h4,-⟩:=h2
 have p1:=mv_nonneg m i
 have p2:=mv_nonneg n j
 have hst:s=t:=by
  cases s <;>cases t <;>simp only[sg_true,sg_false] at h3 h4 <;>first | rfl | (exfalso;grind)
 subst hst
 refine word_inj hx hy e1 e2 ?_
 cases s <;>simp only[sg_true,sg_false] at h3 h4 <;>grind
theorem rep_nat (k:FloatKind) {B:Nat} (hB:B≤2 * k.format.binade):Rep0 k (B:Rat):=by
 refine ⟨B,0,hB,by cases k <;>decide,?_⟩
 unfold mv;rw[p2_zero,Rat.mul_one]
theorem nat_top (k:FloatKind) {B:Nat} (hB:B≤2 * k.format.binade):(B:Rat)<p2 (topE k):=by
 have h1:(B:Rat)≤((2 * k.format.binade:Nat):Rat):=by exact_mod_cast hB
 have h2:((2 * k.format.binade:Nat):Rat)<p2 (topE k):=by
  have:∃ j:Nat,2 * k.format.binade=2 ^ j∧(j:Int)<topE k:=by
   cases k
   ·exact ⟨24,by decide,by decide⟩
   ·exact ⟨53,by decide,by decide⟩
  obtain ⟨j,e,h⟩:=this
  rw[e,← p2_nat]
  exact p2_lt h
 exact rlt h1 h2
theorem int_rep {k:FloatKind} {n:Int} (hn:n.natAbs≤2 * k.format.binade):Rep k (n:Rat):=(int_val hn).rep
theorem int_abs {n:Int}:(n:Rat)≤((n.natAbs:Nat):Rat) ∧ -((n.natAbs:Nat):Rat)≤(n:Rat):=by
 have h1:n≤((n.natAbs:Nat):Int):=by omega
 have h2 : -((n.natAbs:Nat):Int)≤n:=by omega
 have e:((n.natAbs:Nat):Rat)=(((n.natAbs:Nat):Int):Rat):=(Rat.intCast_natCast _).symm
 rw[e]
 refine ⟨Rat.intCast_le_intCast.2 h1,?_⟩
 rw[← Rat.intCast_neg]
 exact Rat.intCast_le_intCast.2 h2
theorem nearest_zero (k:FloatKind):k.nearest 0=0:=by cases k <;>decide
theorem int_add {k:FloatKind} {a b:Int} (ha:a.natAbs≤2 * k.format.binade) (hb:b.natAbs≤2 * k.format.binade) (hab:(a+b).natAbs≤2 * k.format.binade):fadd k (k.nearest a) (k.nearest b)=k.nearest (a+b):=by
 have va:=int_val (k:=k) ha
 have vb:=int_val (k:=k) hb
 by_cases h0:a+b=0
 ·rw[h0,nearest_zero]
  obtain ⟨s,m,i,e1,h1,-⟩:=va
  obtain ⟨t,n,j,e2,h2,-⟩:=vb
  have p1:=mv_nonneg m i
  have p2' :=mv_nonneg n j
  have hbv:(b:Rat) = -(a:Rat):=by
   have:b = -a:=by omega
   rw[this,Rat.intCast_neg]
  have hst:(s&&t)=false:=by
   by_cases h:a=0
   ·subst h
    rw[nearest_zero] at e1
    have:k.decode 0 = .number false 0 k.format.leastPlace:=by cases k <;>decide
    rw[this] at e1
    cases e1;rfl
   ·have hne:(a:Rat)≠0:=by exact_mod_cast h
    cases s <;>cases t <;>simp only[sg_true,sg_false] at h1 h2 <;>first | rfl | (exfalso;grind)
  have e1:k.format.read (k.nearest a) = .number s m i:=e1
  have e2:k.format.read (k.nearest b) = .number t n j:=e2
  generalize hbase:min i j=base
  have ht:Ieee.signed s m (i - base).toNat+Ieee.signed t n (j - base).toNat=0:=by
   have h3:((Ieee.signed s m (i - base).toNat+Ieee.signed t n (j - base).toNat:Int):Rat) * p2 base=0:=by
    rw[Rat.intCast_add,Rat.add_mul,signed_val,signed_val]
    rw[show base+((i - base).toNat:Int)=i by omega,show base+((j - base).toNat:Int)=j by omega,← h1,← h2,hbv]
    grind
   have h4:=p2_pos base
   have h5:((Ieee.signed s m (i - base).toNat+Ieee.signed t n (j - base).toNat:Int):Rat)=0:=by
    rcases Rat.mul_eq_zero.1 h3 with h | h
    ·exact h
    ·rw[h] at h4;exact absurd h4 (by decide)
   exact_mod_cast h5
  simp only[fadd,Ieee.Format.add,e1,e2,Ieee.Datum.sum,Option.map_some,hbase,ht,hst]
  rfl
 ·have hv:(a:Rat)+(b:Rat)=((a+b:Int):Rat):=(Rat.intCast_add _ _).symm
  obtain ⟨h1,h2⟩:=int_abs (n:=a+b)
  obtain ⟨R,h3,h4⟩:=add_val va vb (rep_nat k hab) (nat_top k hab) (by rw[hv];exact h1) (by rw[hv];exact h2)
  rw[hv] at h4
  have h5:=h3.near_eq h4 (int_rep hab)
  exact word_of_val (fadd_lt _ _ _) (nearest_lt _ _) h5 (int_val hab) (by exact_mod_cast h0)
def Bd (k:FloatKind) (x:Nat) (B:Nat):Prop:=∃ v:Rat,Val k x v ∧ -(B:Rat)≤v∧v≤(B:Rat)
theorem Near.bd {k:FloatKind} {v R:Rat} {B:Nat} (h:Near k v R) (hB:B≤2 * k.format.binade) (h1:v≤(B:Rat)) (h2 : -(B:Rat)≤v) : -(B:Rat)≤R∧R≤(B:Rat) :=
 ⟨(h _ (rep_nat k hB).neg).2 h2,(h _ (rep_nat k hB).rep).1 h1⟩
theorem Bd.add {k:FloatKind} {x y A B:Nat} (hx:Bd k x A) (hy:Bd k y B) (h:A+B≤2 * k.format.binade):Bd k (fadd k x y) (A+B):=by
 obtain ⟨v,h1,h2,h3⟩:=hx
 obtain ⟨w,h4,h5,h6⟩:=hy
 have e:=Rat.natCast_add A B
 have g1:v+w≤((A+B:Nat):Rat):=by rw[e];grind
 have g2 : -((A+B:Nat):Rat)≤v+w:=by rw[e];grind
 obtain ⟨R,q1,q2⟩:=add_val h1 h4 (rep_nat k h) (nat_top k h) g1 g2
 exact ⟨R,q1,q2.bd h g1 g2⟩
theorem Bd.sub {k:FloatKind} {x y A B:Nat} (hx:Bd k x A) (hy:Bd k y B) (h:A+B≤2 * k.format.binade):Bd k (fsub k x y) (A+B):=by
 obtain ⟨v,h1,h2,h3⟩:=hx
 obtain ⟨w,h4,h5,h6⟩:=hy
 have e:=Rat.natCast_add A B
 have g1:v - w≤((A+B:Nat):Rat):=by rw[e];grind
 have g2 : -((A+B:Nat):Rat)≤v - w:=by rw[e];grind
 obtain ⟨R,q1,q2⟩:=sub_val h1 h4 (rep_nat k h) (nat_top k h) g1 g2
 exact ⟨R,q1,q2.bd h g1 g2⟩
theorem mul_between {v w A B:Rat} (hA:0≤A) (hB:0≤B) (h1 : -A≤v) (h2:v≤A) (h3 : -B≤w) (h4:w≤B) : -(A * B)≤v * w∧v * w≤A * B:=by
 have key:∀ v w:Rat,0≤v→0≤w→v≤A→w≤B→0≤v * w∧v * w≤A * B:=fun v w a b c d =>
  ⟨Rat.mul_nonneg a b,Rat.le_trans (Rat.mul_le_mul_of_nonneg_right c b) (Rat.mul_le_mul_of_nonneg_left d hA)⟩
 rcases (Rat.le_total:(0:Rat)≤v∨v≤0) with hv | hv <;>rcases (Rat.le_total:(0:Rat)≤w∨w≤0) with hw | hw
 ·have:=key v w hv hw h2 h4;grind
 ·have:=key v (-w) hv (by grind) h2 (by grind);grind
 ·have:=key (-v) w (by grind) hw (by grind) h4;grind
 ·have:=key (-v) (-w) (by grind) (by grind) (by grind) (by grind);grind
theorem Bd.mul {k:FloatKind} {x y A B:Nat} (hx:Bd k x A) (hy:Bd k y B) (h:A * B≤2 * k.format.binade):Bd k (fmul k x y) (A * B):=by
 obtain ⟨v,h1,h2,h3⟩:=hx
 obtain ⟨w,h4,h5,h6⟩:=hy
 have e:=Rat.natCast_mul A B
 have hA:(0:Rat)≤(A:Rat):=by exact_mod_cast Nat.zero_le A
 have hB:(0:Rat)≤(B:Rat):=by exact_mod_cast Nat.zero_le B
 obtain ⟨g2,g1⟩:=mul_between hA hB h2 h3 h5 h6
 rw[← e] at g1 g2
 obtain ⟨R,q1,q2⟩:=mul_val h1 h4 (rep_nat k h) (nat_top k h) g1 g2
 exact ⟨R,q1,q2.bd h g1 g2⟩
theorem Bd.div {k:FloatKind} {x y A:Nat} {w:Rat} (hx:Bd k x A) (hy:Val k y w) (hw:1≤w) (h:A≤2 * k.format.binade):Bd k (fdiv k x y) A:=by
 obtain ⟨v,h1,h2,h3⟩:=hx
 have hA:(0:Rat)≤(A:Rat):=by exact_mod_cast Nat.zero_le A
 have hw0:w≠0:=by grind
 have hpos:0<w:=by grind
 have hq:v / w * w=v:=Rat.div_mul_cancel hw0
 have hAw:(A:Rat) * 1≤(A:Rat) * w:=Rat.mul_le_mul_of_nonneg_left hw hA
 have g1:v / w≤(A:Rat):=by
  refine Rat.not_lt.1 fun h => ?_
  have:=(Rat.mul_lt_mul_right hpos).2 h
  grind
 have g2 : -(A:Rat)≤v / w:=by
  refine Rat.not_lt.1 fun h => ?_
  have:=(Rat.mul_lt_mul_right hpos).2 h
  grind
 obtain ⟨R,q1,q2⟩:=div_val h1 hy hw0 (rep_nat k h) (nat_top k h) g1 g2
 exact ⟨R,q1,q2.bd h g1 g2⟩
theorem Bd.mono {k:FloatKind} {x A B:Nat} (h:Bd k x A) (hAB:A≤B):Bd k x B:=by
 obtain ⟨v,h1,h2,h3⟩:=h
 have:(A:Rat)≤(B:Rat):=by exact_mod_cast hAB
 exact ⟨v,h1,by grind,by grind⟩
theorem Bd.int {k:FloatKind} {n:Int} {B:Nat} (h:n.natAbs≤B) (hB:B≤2 * k.format.binade):Bd k (k.nearest n) B:=by
 obtain ⟨h1,h2⟩:=int_abs (n:=n)
 have:((n.natAbs:Nat):Rat)≤(B:Rat):=by exact_mod_cast h
 exact ⟨_,int_val (by omega),by grind,by grind⟩
theorem Bd.even {x B:Nat} (h:Bd .f64 x B) (hB:B≤2 * FloatKind.f64.format.binade):Bd .f64 (integralF .even x) B:=by
 obtain ⟨v,⟨s,m,i,e1,rfl,-⟩,h2,h3⟩:=h
 have hv:=mv_nonneg m i
 have hmv:mv m i≤(B:Rat):=by cases s <;>simp only[sg_true,sg_false] at h2 h3 <;>grind
 have hn:m <<< i.toNat≤B * 2 ^ (-i).toNat:=by
  rw[Nat.shiftLeft_eq]
  have h4:mv (m * 2 ^ i.toNat) (-((-i).toNat:Int))≤mv (B * 2 ^ (-i).toNat) (-((-i).toNat:Int)):=by
   rw[mv_shift,mv_shift]
   rw[show -((-i).toNat:Int)+(i.toNat:Int)=i by omega,show -((-i).toNat:Int)+((-i).toNat:Int)=0 by omega]
   have e0:mv B 0=(B:Rat):=by unfold mv;rw[p2_zero,Rat.mul_one]
   rw[e0];exact hmv
  exact mv_le.1 h4
 have hc:=(cut_bounds s (m <<< i.toNat) (-i).toNat B).1 hn
 have e2:integralF .even x=FloatKind.f64.encode (.number s (Ieee.Toward.cut .even s (m <<< i.toNat) (-i).toNat) 0):=by
  unfold integralF;rw[e1];rfl
 rw[e2]
 generalize Ieee.Toward.cut .even s (m <<< i.toNat) (-i).toNat=c at *
 have hcb:c≤2 * FloatKind.f64.format.binade:=by omega
 have e3:mv c 0=(c:Rat):=by unfold mv;rw[p2_zero,Rat.mul_one]
 have e4:(c:Rat)≤(B:Rat):=by exact_mod_cast hc
 have e5:(0:Rat)≤(c:Rat):=by exact_mod_cast Nat.zero_le c
 obtain ⟨m',e',q1,q2⟩:=exact_write .f64 s (m:=c) (e:=0) (by rw[e3];exact rep_nat .f64 hcb) (by rw[e3];exact nat_top .f64 hcb)
 refine ⟨_,read_val q1,?_,?_⟩ <;>rw[q2,e3] <;>cases s <;>simp only[sg_true,sg_false] <;>grind
end Go.Desk
end
section
namespace Go.Desk
open Go
theorem fin_val {x:Nat} (h:fin32 x=true):Val .f32 x (fval .f32 x):=by
 obtain ⟨s,m,e,hd⟩:=fin_read h
 have:=read_val hd
 unfold fval;rw[hd];exact this
theorem Val.fval {k:FloatKind} {x:Nat} {v:Rat} (h:Val k x v):Go.Desk.fval k x=v:=by
 obtain ⟨s,m,e,h1,h2,-⟩:=h
 unfold Go.Desk.fval;rw[h1];exact h2.symm
theorem Val.fin {x:Nat} {v:Rat} (h:Val .f32 x v):fin32 x=true:=by
 obtain ⟨s,m,e,h1,-⟩:=h
 have:=(read_fin h1).1
 unfold fin32
 exact decide_eq_true this
theorem size_val {x:Nat} {v:Rat} (hx:W32 x) (h:Val .f32 x v):(0≤v→Val .f32 (size32 x) v)∧(v≤0→Val .f32 (size32 x) (-v)):=by
 have hn:=h.num
 obtain ⟨s,m,e,h1,rfl,h2,h3⟩:=h
 have hs:size32 x=x % 2147483648:=by unfold size32;rw[hn];rfl
 have h4:FloatKind.f32.decode (size32 x) = .number false m e:=by rw[hs];exact decode_size.1 s m e h1
 have h5:=read_val h4
 have hnn:=mv_nonneg m e
 rw[sg_false] at h5
 constructor
 ·intro h
  cases s <;>simp only[sg_true,sg_false] at h ⊢
  ·exact h5
  ·have:mv m e=0:=by grind
   rw[this] at h5 ⊢;simpa using h5
 ·intro h
  cases s <;>simp only[sg_true,sg_false] at h ⊢
  ·have:mv m e=0:=by grind
   rw[this] at h5 ⊢;simpa using h5
  ·rw[Rat.neg_neg];exact h5
def plainOk (x:Nat):Bool:=fin32 x&&(x % 2147483648==0||(decide (1031798784≤x % 2147483648)&&decide (x % 2147483648≤1091829760)))
theorem plain_tab:∀ m:Nat,m<129→(plainOk (fdiv .f32 (FloatKind.f32.nearest ((m:Int) - 64)) 1088421888)&&plainOk (fdiv .f32 (FloatKind.f32.nearest ((m:Int) - 64)) 1098907648))=true:=by decide +kernel
theorem Plain.ok {x:Nat} (h:Plain x):plainOk x=true:=by
 obtain ⟨m,hm,h⟩:=h
 obtain ⟨k,hk⟩:=Int.eq_ofNat_of_zero_le (show 0≤m+64 by omega)
 have hm':m=(k:Int) - 64:=by omega
 have:=plain_tab k (by omega)
 rw[← hm',Bool.and_eq_true] at this
 rcases h with rfl | rfl
 ·exact this.1
 ·exact this.2
theorem Plain.fin {x:Nat} (h:Plain x):fin32 x=true:=by
 have:=h.ok
 unfold plainOk at this
 rw[Bool.and_eq_true] at this
 exact this.1
theorem val_const (x:Nat) (s:Bool) (m:Nat) (e:Int) (h:FloatKind.f32.decode x = .number s m e):Val .f32 x (sg s (mv m e)):=read_val h
theorem Plain.val {x:Nat} (h:Plain x):∃ v,Val .f32 (size32 x) v∧(v=0∨1 / 16≤v)∧0≤v∧v≤10∧(fval .f32 x=v∨fval .f32 x = -v):=by
 have hf:=h.fin
 have hok:=h.ok
 have hw:=h.w32
 have hv:=fin_val hf
 obtain ⟨s1,s2⟩:=size_val hw hv
 have hn:=fin_num hf
 have hs:size32 x=x % 2147483648:=by unfold size32;rw[hn];rfl
 have hex:∃ v,Val .f32 (size32 x) v∧0≤v∧(fval .f32 x=v∨fval .f32 x = -v):=by
  rcases (Rat.le_total:(0:Rat)≤fval .f32 x∨fval .f32 x≤0) with h1 | h1
  ·exact ⟨_,s1 h1,h1,.inl rfl⟩
  ·exact ⟨_,s2 h1,by grind,.inr (by grind)⟩
 obtain ⟨v,q1,q2,q3⟩:=hex
 refine ⟨v,q1,?_,q2,?_,q3⟩
 ·unfold plainOk at hok
  simp only[Bool.and_eq_true,Bool.or_eq_true,beq_iff_eq,decide_eq_true_eq] at hok
  rcases hok.2 with h0 | ⟨h1,-⟩
  ·rw[← hs] at h0
   rw[h0] at q1
   exact .inl (q1.inj (val_zero .f32))
  ·refine .inr ?_
   have hc:Val .f32 1031798784 (1 / 16):=by
    have:=val_const 1031798784 false (2 ^ 23) (-27) (by decide)
    rw[sg_false,mv_pow] at this
    have e:p2 (-27+((23:Nat):Int)) * 16=1:=by
     have h4:=p2_add (-27+((23:Nat):Int)) 4
     have h16:p2 4=16:=by have:=p2_nat 4;rw[show ((4:Nat):Int)=4 from rfl] at this;rw[this];rfl
     rw[h16] at h4;rw[← h4,show (-27:Int)+((23:Nat):Int)+4=0 by decide,p2_zero]
    have e2:p2 (-27+((23:Nat):Int))=1 / 16:=by grind
    rw[e2] at this;exact this
   have:=(fge_val q1 hc).1 (by
    rw[fge_key];unfold num2
    rw[q1.num,hc.num,key32 (by omega),key32 (by omega),if_pos (by omega),if_pos (by omega)]
    simp;omega)
   exact this
 ·unfold plainOk at hok
  simp only[Bool.and_eq_true,Bool.or_eq_true,beq_iff_eq,decide_eq_true_eq] at hok
  have hle:x % 2147483648≤1091829760:=by rcases hok.2 with h0 | ⟨-,h1⟩ <;>omega
  have hc:Val .f32 1092616192 10:=by
   have:=int_val (k:=.f32) (n:=10) (by decide)
   rwa [show FloatKind.f32.nearest 10=1092616192 by decide] at this
  refine (fle_val q1 hc).1 ?_
  rw[fle_key];unfold num2
  rw[q1.num,hc.num,key32 (by omega),key32 (by omega),if_pos (by omega),if_pos (by omega)]
  simp;omega
end Go.Desk
end
section
namespace Go.Desk
open Go
theorem binade32:2 * FloatKind.f32.format.binade=16777216:=by decide
end Go.Desk
end
section
namespace Go.Desk
open Go
theorem int_mul {a b:Int} (ha:a.natAbs≤16777216) (hb:b.natAbs≤16777216) (hab:(a * b).natAbs≤16777216) (h0:a * b≠0):fmul .f32 (FloatKind.f32.nearest a) (FloatKind.f32.nearest b)=FloatKind.f32.nearest (a * b):=by
 have b32:2 * FloatKind.f32.format.binade=16777216:=binade32
 have va:=int_val (k:=.f32) (n:=a) (by rw[b32];exact ha)
 have vb:=int_val (k:=.f32) (n:=b) (by rw[b32];exact hb)
 have hab':(a * b).natAbs≤2 * FloatKind.f32.format.binade:=by rw[b32];exact hab
 have hv:(a:Rat) * (b:Rat)=((a * b:Int):Rat):=(Rat.intCast_mul _ _).symm
 obtain ⟨h1,h2⟩:=int_abs (n:=a * b)
 obtain ⟨R,h3,h4⟩:=mul_val va vb (rep_nat .f32 hab') (nat_top .f32 hab') (by rw[hv];exact h1) (by rw[hv];exact h2)
 rw[hv] at h4
 have h5:=h3.near_eq h4 (int_rep hab')
 exact word_of_val (fmul_lt _ _ _) (nearest_lt _ _) h5 (int_val hab') (by exact_mod_cast h0)
theorem nearest_one:FloatKind.f32.nearest 1=1065353216:=by decide
theorem one_mul {a:Int} (h : -1000000≤a∧a≤1000000):fmul .f32 1065353216 (FloatKind.f32.nearest a)=FloatKind.f32.nearest a:=by
 by_cases h0:a=0
 ·subst h0;decide
 ·have:=int_mul (a:=1) (b:=a) (by decide) (by omega) (by omega) (by omega)
  rw[nearest_one,Int.one_mul] at this
  exact this
theorem small_bin {a:Int} (h : -1000000≤a∧a≤1000000):a.natAbs≤2 * FloatKind.f32.format.binade:=by
 rw[show 2 * FloatKind.f32.format.binade=16777216 from binade32];omega
theorem add_zero {a:Int} (h : -1000000≤a∧a≤1000000):fadd .f32 (FloatKind.f32.nearest a) 0=FloatKind.f32.nearest a:=by
 have:=int_add (k:=.f32) (a:=a) (b:=0) (small_bin h) (by decide) (by simpa using small_bin h)
 rw[nearest_zero] at this
 simpa using this
end Go.Desk
namespace Go.Desk
open Go
end Go.Desk
end
section
namespace Go.Proofs.Ytdobhipbgpiceaa.DC
open Go Go.Desk
def bodyOf (f:Func):Code:=match f.body with
 | some c=>c
 | none => .skip
def tyTab:List (Nat × TD):=[
 (34,⟨false,1,8,[.leaf],[.flt .f64 0],.flt .f64⟩),
 (168,⟨false,1,8,[.leaf],[.int .u64 0],.int .u64⟩)]
noncomputable def c190:Code:=bodyOf Try.f190
noncomputable def fnTab:List (Nat × FD):=[
 (190,.code c190 [.val,.val] [] [(4,none)] [(0,[0,1]),(1,[0,1])]),
 (200,.ext (pF64frombits)),
 (201,.ext (pF64bits))]
noncomputable def E:Env:=⟨fun t=>lookT tyTab t,lookF fnTab⟩
noncomputable def fdAt (n:Nat):FD:=match lookF fnTab n with
 | some d=>d
 | none => .ext fun _=>none
noncomputable def keepAt (n:Nat):List (Nat × List Nat):=match lookF fnTab n with
 | some d=>d.keep
 | none=>[]
theorem tysOk:TysOk Try.prog E:=tysOk_of (l:=tyTab) (fun _=>rfl) (by kernel_rfl)
theorem ft190:FnTab Try.prog E 190 (fdAt 190):=fnTab_code (c:=c190) (modes:=(fdAt 190).ms) (outs:=(fdAt 190).os) (results:=(fdAt 190).rs) (keep:=(fdAt 190).keep) Try.func190 (by kernel_rfl) (by kernel_rfl) (by kernel_rfl)
theorem ft200:FnTab Try.prog E 200 (.ext (pF64frombits)):=ext_pF64frombits Try.func200 (by kernel_rfl) (by kernel_rfl) (by kernel_rfl) (by kernel_rfl)
theorem ft201:FnTab Try.prog E 201 (.ext (pF64bits)):=ext_pF64bits Try.func201 (by kernel_rfl) (by kernel_rfl) (by kernel_rfl) (by kernel_rfl)
theorem allFns:AllFns Try.prog E fnTab:=.cons ft190 (.cons ft200 (.cons ft201 (.nil)))
theorem fnOk:∀ f fd,E.fn f=some fd→FnTab Try.prog E f fd:=fnTab_of (l:=fnTab) (fun _=>rfl) allFns
end Go.Proofs.Ytdobhipbgpiceaa.DC
section
namespace Go.Proofs.Ytdobhipbgpiceaa.DC
open Go Go.Desk
set_option linter.unusedVariables false
noncomputable def x200.w:FnW E:=xF64frombits.w 200 (by kernel_rfl)
noncomputable def x201.w:FnW E:=xF64bits.w 201 (by kernel_rfl)
def f190:Nat→Nat→Nat→Option (Nat)
 | 0,_,_=>none
 | n+1,x1,x2 =>
   bd (xF64bits n x1) fun r3 =>
   let i4:Int:=r3
   bd (xF64bits n x2) fun r5 =>
   let i6:Int:=r5
   bd (xF64frombits n (intBits BinOp.or IntKind.u64 (intBits BinOp.andNot IntKind.u64 i4 (9223372036854775808:Int)) (intBits BinOp.and IntKind.u64 i6 (9223372036854775808:Int)))) fun r7 =>
   let x8:Nat:=r7
   some x8
def sg_ff:Sig (Nat × Nat) where
 pk:=fun v=>[.flt v.1,.flt v.2]
 up:=fun ls=>match ls with
  | [.flt a0,.flt a1]=>some (a0,a1)
  | _=>none
 ok:=by
  intro ls v h
  split at h
  ·cases h;rfl
  ·cases h
def sg_f:Sig (Nat) where
 pk:=fun v=>[.flt v]
 up:=fun ls=>match ls with
  | [.flt a0]=>some a0
  | _=>none
 ok:=by
  intro ls v h
  split at h
  ·cases h;rfl
  ·cases h
def f190.P:List Arg:=[⟨.val,⟨false,[.leaf],[.flt .f64 0]⟩⟩,⟨.val,⟨false,[.leaf],[.flt .f64 0]⟩⟩]
def f190.A:RAlt (Nat):=.one ⟨[⟨false,[.leaf],[.flt .f64 0]⟩],[none,none]⟩ sg_f
def f190.F (n:Nat) (v:Nat × Nat):=f190 n v.1 v.2
noncomputable def f190.O (n:Nat):Orc:=orcOf (E:=E) [x200.w,x201.w] [] n
theorem f190.ok:∀ n v x,f190.F n v=some x→evalFn E n 190 (flAs f190.P (sg_ff.pk v))=some (f190.A.enc x) :=
 fn_pure (modes:=(fdAt 190).ms) (outs:=(fdAt 190).os) (results:=(fdAt 190).rs) f190.O (c:=c190) (keep:=keepAt 190) (by kernel_rfl) (fun n=>orcOf_cf _ _ n) (fun n=>lpOk_of (bs:=[]) (by kernel_rfl) .nil) (fun _=>rfl) (fun _ _=>by kernel_rfl)
noncomputable def f190.w:FnW E:=fnW 190 f190.P sg_ff f190.A f190.F f190.ok
end Go.Proofs.Ytdobhipbgpiceaa.DC
end
namespace Go.Proofs.Ytdobhipbgpiceaa.DC
open Go Go.Desk
theorem signOk:ExtOk Try.prog 190 pCopysign:=ext_pCopysign_of Try.checked.mixed tysOk fnOk
 (fun x s hx hs hx' hs'=>⟨3,f190.ok 3 (x,s) _ (copysign_plain 1 hx hs hx' hs')⟩)
end Go.Proofs.Ytdobhipbgpiceaa.DC
end
section
namespace Go.Proofs.Ytdobhipbgpiceaa.DS
open Go Go.Desk Go.Shelf Go.RowKit Go.Lib Go.Sort
set_option linter.unusedVariables false
theorem run_clear_rows {P:Program} (w:World) (t e ty:TypeId) (z:Value) (ht:P.underlying t=some (.slice e)) (hv:∀ w,(zeroValue e).run P w = .ok z w) (b o n c:Nat) (hn:0<n)
  (h1:∀ u∈(Builtin.zeroCells z.cells n).toList,u.oneCell'=true)
  (hc:∀ j,j<(Builtin.zeroCells z.cells n).toList.length→(w.cell? ⟨b,o+j,none⟩).isSome=true) (hf:∀ j,j<(Builtin.zeroCells z.cells n).toList.length→w.frozen? ⟨b,o+j,none⟩=false) :
  (Builtin.clear_ #[t] ty #[.slice (some ⟨b,o,none⟩) n c]).run P w = .ok (.tuple #[]) (w.setCells b o (Builtin.zeroCells z.cells n).toList):=by
 have hst:=run_storeCells_cells (P:=P) b o (Builtin.zeroCells z.cells n).toList 0 w (by simpa using hc) (by simpa using hf) h1
 simp only[Nat.add_zero] at hst
 obtain ⟨m,rfl⟩:∃ m,n=m+1:=⟨n - 1,by omega⟩
 simp[Builtin.clear_,run_underlying ht,hv,hst]
theorem setCells_wset:∀ (vs:List Value) (w:World) (b o:Nat),w.setCells b o vs=wset w b o vs
 | [],_,_,_=>rfl
 | v::vs,w,b,o=>setCells_wset vs (w.setCell ⟨b,o,none⟩ v) b (o+1)
theorem zeroCells_len (c:Array Value) (k W:Nat) (h:c.size=W):(Builtin.zeroCells c k).toList.length=k * W:=by simp[Builtin.zeroCells,h]
theorem zeroCells_one (c:Array Value) (k:Nat) (h:∀ v∈c.toList,v.oneCell'=true):∀ u∈(Builtin.zeroCells c k).toList,u.oneCell'=true:=by
 intro u hu
 simp only[Builtin.zeroCells,Array.toList_map,List.mem_map] at hu
 obtain ⟨i,hi,rfl⟩:=hu
 have hi:i<k * c.size:=by simpa using hi
 have hs:0<c.size:=by
  rcases Nat.eq_zero_or_pos c.size with h0 | h0
  ·rw[h0] at hi;omega
  ·exact h0
 have hm:i % c.size<c.size:=Nat.mod_lt _ hs
 refine h _ ?_
 rw[getElem!_pos c (i % c.size) hm]
 exact Array.getElem_mem_toList hm
set_option maxHeartbeats 4000000 in
set_option maxRecDepth 1000000 in
theorem same85 (w:World) (blk off n cap i:Nat) (hcap:n≤cap) (hj:i≤n) :
  Calls Try.prog 85 #[.slice (some ⟨blk,off,none⟩) n cap,.int .i64 i,.int .i64 i] w fun e w'=>e = .returned (.slice (some ⟨blk,off,none⟩) n cap)∧w'=w:=by
 go_enter Try.func85,Try.ntmps85
 go_wp2
 all_goals (go_ret;exact ⟨rfl,rfl⟩)
set_option maxHeartbeats 4000000 in
set_option maxRecDepth 1000000 in
theorem none85 (w:World) :
  Calls Try.prog 85 #[.slice none 0 0,.int .i64 (0:Nat),.int .i64 (0:Nat)] w fun e w'=>e = .returned (.slice none 0 0)∧w'=w:=by
 go_enter Try.func85,Try.ntmps85
 go_wp2
 all_goals (go_ret;exact ⟨rfl,rfl⟩)
set_option maxHeartbeats 4000000 in
set_option maxRecDepth 1000000 in
theorem move85 (w:World) (blk off n cap i j:Nat) (vs:List Value) (z:Value) (zs:List Value) (hz:∀ w,(zeroValue 54).run Try.prog w = .ok z w) (hzs:(Builtin.zeroCells z.cells (j - i)).toList=zs) (hzl:zs.length=(j - i) * 3) (hz1:∀ u∈zs,u.oneCell'=true)
  (i0:TypeInfo) (hi0:Try.prog.info? 54=some i0) (hsz:i0.size=3)
  (hl:vs.length=n * 3) (hc:Hid (∀ t u,vs[t]?=some u→w.cell? ⟨blk,off+t,none⟩=some u)) (hf:Hid (∀ t,t<vs.length→w.frozen? ⟨blk,off+t,none⟩=false)) (h1:Hid (∀ u∈vs,u.oneCell'=true)) (hcap:n≤cap) (hlt:i<j) (hj:j≤n) :
  Calls Try.prog 85 #[.slice (some ⟨blk,off,none⟩) n cap,.int .i64 i,.int .i64 j] w fun e w'=>e = .returned (.slice (some ⟨blk,off,none⟩) (n - (j - i)) cap)∧w'=((w.drew.setCells blk (off+i * 3) (vs.drop (j * 3))).setCells blk (off+(i+(n - j)) * 3) zs):=by
 obtain ⟨news,hnews⟩:∃ news,news=vs.drop (j * 3):=⟨_,rfl⟩
 have hlen:news.length=n * 3 - j * 3:=by rw[hnews];simp[hl]
 have hget:∀ t u,news[t]?=some u→w.drew.cell? ⟨blk,off+(j * 3+t),none⟩=some u:=by
  intro t u hu
  rw[hnews,List.getElem?_drop] at hu
  exact hc.out _ u hu
 obtain ⟨A,hA,hsrc⟩:∃ A:Addr,(if cap=j then some (⟨blk,off,none⟩:Addr) else some ⟨blk,off+j * 3,none⟩)=some A∧Hid (∀ t u,news[t]?=some u→w.drew.cell? (A.add t)=some u):=by
  by_cases h:cap=j
  ·refine ⟨⟨blk,off,none⟩,by simp[h],fun t u hu => ?_⟩
   have h0:news.length=0:=by rw[hlen];omega
   rw[List.length_eq_zero_iff.1 h0] at hu
   simp at hu
  ·refine ⟨⟨blk,off+j * 3,none⟩,by simp[h],fun t u hu => ?_⟩
   rw[Addr.add_lit,show off+j * 3+t=off+(j * 3+t) by omega]
   exact hget t u hu
 have s1:Hid (news.length=(n - j) * 3):=by show news.length=_;rw[hlen];omega
 have s2:Hid (∀ u∈news,u.oneCell'=true):=fun u hu=>h1.out u (by rw[hnews] at hu;exact List.mem_of_mem_drop hu)
 have hcs:∀ t,t<n * 3→(w.drew.cell? ⟨blk,off+t,none⟩).isSome=true:=by
  intro t ht
  have:=hc.out t vs[t] (List.getElem?_eq_getElem (by omega))
  show (w.cell? _).isSome=true
  rw[this];rfl
 have hfs:∀ t,t<n * 3→w.drew.frozen? ⟨blk,off+t,none⟩=false:=fun t ht=>hf.out t (by omega)
 have s3:Hid (∀ t,t<news.length→(w.drew.cell? ⟨blk,off+i * 3+t,none⟩).isSome=true∧w.drew.frozen? ⟨blk,off+i * 3+t,none⟩=false):=by
  intro t ht
  rw[hlen] at ht
  rw[Nat.add_assoc]
  exact ⟨hcs _ (by omega),hfs _ (by omega)⟩
 obtain ⟨W1,hW1⟩:∃ W1,W1=w.drew.setCells blk (off+i * 3) news:=⟨_,rfl⟩
 have hk:n - (i+(n - j))=j - i:=by omega
 have hcl:∀ ty,(Builtin.clear_ #[35] ty #[.slice (some ⟨blk,off+(i+(n - j)) * 3,none⟩) (n - (i+(n - j))) (cap - (i+(n - j)))]).run Try.prog W1 = .ok (.tuple #[]) (W1.setCells blk (off+(i+(n - j)) * 3) zs):=by
  intro ty
  rw[hk]
  have:=run_clear_rows (P:=Try.prog) W1 35 54 ty z Try.underlying35 hz blk (off+(i+(n - j)) * 3) (j - i) (cap - (i+(n - j))) (by omega) (by rw[hzs];exact hz1)
   (by rw[hzs,hzl];intro t ht;rw[hW1];refine World.isSome_setCells blk _ _ _ _ ?_;rw[Nat.add_assoc];exact hcs _ (by omega))
   (by rw[hzs,hzl];intro t ht;rw[hW1,World.frozen?_setCells,Nat.add_assoc];exact hfs _ (by omega))
  rw[hzs] at this
  exact this
 have X:Aside (W1=w.drew.setCells blk (off+i * 3) news):=hW1
 have hW:Hid (W1=w.drew.setCells blk (off+i * 3) news):=hW1
 have hnw:Hid (news=vs.drop (j * 3)):=hnews
 have hic:i≤cap:=by omega
 have hjc:j≤cap:=by omega
 clear hW1 hget hnews hlen hcs hfs hc hf h1 hz hzs hz1 hzl hk
 have mixed:Try.prog.follows .mixedOrders=true:=Try.checked.mixed
 go_enter Try.func85,Try.ntmps85
 go_wp2_with fail
 go_region_law_o (refine step_append_room rfl (.tmp 22) (.tmp 25) 35 rfl 54 i0 3 Try.underlying35 hi0 hsz blk off i cap (by simp[Act.eval,Act.put]) A (n - j) (cap - j) news (by simp[Act.eval,Act.put]) s1.out hsrc.out s2.out (by omega) s3.out ?_;rw[← hW.out])
 go_wp2
 go_ret
 refine ⟨by rw[show n - (j - i)=i+(n - j) by omega];rfl,?_⟩
 rw[X.out,hnw.out]
theorem run85:DelRun Try.prog 85 3 where
 enter:=fun xs w=>by
  have h1 : Try.f85.name ≠ "runtime.NumGoroutine" := by
   have : (Try.f85.name == "runtime.NumGoroutine") = false := by kernel_rfl
   simpa using this
  have hs:Try.f85.body.isSome=true:=by kernel_rfl
  obtain ⟨c,hb⟩:=Option.isSome_iff_exists.1 hs
  simp[callFunc,Try.func85,h1,hb]
 same:=fun w a n cap i hn hi ha hs=>by
  cases a with
  | none =>
    obtain ⟨rfl,rfl⟩:=ha rfl
    obtain rfl:i=0:=by omega
    exact none85 w
  | some x =>
    obtain ⟨b,off,sp⟩:=x
    have:sp=none:=hs _ rfl
    subst this
    exact same85 w b off n cap i hn hi
 move:=fun w b off n cap i j vs hl hc hf h1 hn hij hj=>by
  refine ⟨(Builtin.zeroCells (Value.cells (.agg #[.int .i64 0,.int .i64 0,.slice none 0 0])) (j - i)).toList,zeroCells_len _ _ _ (by rfl),?_⟩
  refine (move85 w b off n cap i j vs (.agg #[.int .i64 0,.int .i64 0,.slice none 0 0]) _ Try.zeroValue54 rfl (zeroCells_len _ _ _ (by rfl)) (zeroCells_one _ _ (by simp[Value.cells,Value.oneCell'])) Try.t54 (by kernel_rfl) (by kernel_rfl) hl hc hf h1 hn hij hj).mono ?_
  rintro e w' ⟨rfl,rfl⟩
  rw[setCells_wset,setCells_wset]
  exact ⟨rfl,rfl⟩
theorem ok85 {E:Env}:FnTab Try.prog E 85 (.sem [.io,.val,.val] (delH 3)):=del_ok run85
abbrev One:={v:Value // v.oneCell'=true}
instance:Inhabited One:=⟨⟨.bool true,rfl⟩⟩
theorem rev_world {α:Type} [Inhabited α] (enc:α→Value) (w:World) (b off:Nat) (d d':Array α) (hH:Holds enc w b off d) (hs:d'.size=d.size) (q:Nat):putRow enc (Sort.ahead w q) b off d'=wset { w with drawn:=w.drawn+q } b off (d'.toList.map enc):=by
 have h:=putRow_setCells enc (Sort.ahead w q) b off d'.toList d 0 (by simp[hs])
 rw[putRow_self enc _ b off d (holds_ahead enc w q b off d hH)] at h
 have hl:lay d 0 d'.toList=d' :=by
  apply Array.ext_getElem?
  intro j
  rw[lay_get? _ _ _ _ (by simp[hs])]
  by_cases hj:j<d'.size
  ·rw[if_pos ⟨by omega,by simpa using hj⟩];simp
  ·rw[if_neg (by simp;omega)]
   rw[Array.getElem?_eq_none (by omega),Array.getElem?_eq_none (by omega)]
 rw[hl,Nat.add_zero] at h
 rw[← h]
 exact setCells_wset _ _ _ _
set_option maxHeartbeats 1600000 in
set_option maxRecDepth 1000000 in
theorem rev97 {α:Type} [Inhabited α] (enc:α→Value) (h1:OneCell enc) (blk off cap:Nat) (d:Array α) (w:World) (hH:Holds enc w blk off d) (hsz:d.size≤9223372036854775807) :
  Calls Try.prog 97 #[.slice (some ⟨blk,off,none⟩) d.size cap] w fun e w'=>e = .returned (.tuple #[])∧∃ n,w'=putRow enc (Sort.ahead w n) blk off d.reverse:=by
 have mixed:Try.prog.follows .mixedOrders=true:=Try.checked.mixed
 have hcl:=h1.cells
 simp only[Value.cells] at hcl
 have hst:=h1.store Try.prog
 go_enter Try.func97,Try.ntmps97
 go_wp2
 go_loopg [2,3] d.size (fun k s2 s3 wr=>∃ (i jn:Nat) (jz:Int) (dk:Array α) (n:Nat),s2 = .int .i64 i∧s3 = .int .i64 jz∧((i:Int)<jz→jz=jn∧jn<d.size)∧(¬ (i:Int)<jz→¬ i<jn)∧jn - i≤k ∧
  dk.size=d.size∧wr=putRow enc (Sort.ahead w n) blk off dk∧reverseLoop i jn dk=reverseLoop 0 (d.size - 1) d)
 case atStart=>exact ⟨0,d.size - 1,(d.size:Int) - 1,d,0,rfl,rfl,fun h=>⟨by omega,by omega⟩,fun h=>by omega,by omega,rfl,(putRow_self enc w blk off d hH).symm,rfl⟩
 case round =>
  obtain ⟨i,jn,jz,dk,n,rfl,rfl,h1,h2,hk,hds,hwr,heq⟩:=hrel
  by_cases hlt:(i:Int)<jz
  ·obtain ⟨rfl,hjn⟩:=h1 hlt
   have hij:i<jn:=by omega
   have hHk:Holds enc wr blk off dk:=by rw[hwr];exact holds_putRow enc _ blk off d dk (holds_ahead enc w n blk off d hH) hds
   obtain ⟨ci,fi⟩:=hHk i (by omega)
   obtain ⟨cj,fj⟩:=hHk jn (by omega)
   have A:Aside (wr=putRow enc (Sort.ahead w n) blk off dk):=hwr
   clear hwr hHk hH h1 h2
   go_wp2_with fail
   go_region_o
   go_wp2
   go_roundg (jn - 1 - (i+1))
   case measure=>omega
   case rel =>
    rw[reverseLoop,if_pos hij] at heq
    exact ⟨i+1,jn - 1,(jn:Int) - 1,swp dk i jn,n+1,by simp,rfl,fun h=>⟨by omega,by omega⟩,fun h=>by omega,Nat.le_refl _,by rw[size_swp];exact hds,
     swap_world enc (by omega) (by omega) A.out (by first | rfl | simp[getElem!_pos,show jn<dk.size by omega]) (by first | rfl | simp[getElem!_pos,show i<dk.size by omega]),heq⟩
  ·have hnot:=h2 hlt
   go_wp2
   go_end0
   refine ⟨rfl,n,?_⟩
   rw[reverseLoop,if_neg hnot] at heq
   rw[← Lib.reverseLoop_reverse,← heq]
set_option maxHeartbeats 1000000 in
set_option maxRecDepth 1000000 in
theorem revnone97 (a:Option Addr) (cap:Nat) (w:World):Calls Try.prog 97 #[.slice a 0 cap] w fun e w'=>e = .returned (.tuple #[])∧w'=w:=by
 have mixed:Try.prog.follows .mixedOrders=true:=Try.checked.mixed
 go_enter Try.func97,Try.ntmps97
 go_wp2
 go_loopg [2,3] 0 (fun _ s2 s3 wr=>s2 = .int .i64 0∧s3 = .int .i64 (-1)∧wr=w)
 case atStart=>exact ⟨rfl,rfl,rfl⟩
 case round =>
  obtain ⟨rfl,rfl,rfl⟩:=hrel
  go_wp2
  go_end0
  exact ⟨rfl,rfl⟩
theorem run97:RevRun Try.prog 97 where
 enter:=fun xs w=>by
  have h1 : Try.f97.name ≠ "runtime.NumGoroutine" := by
   have : (Try.f97.name == "runtime.NumGoroutine") = false := by kernel_rfl
   simpa using this
  have hs:Try.f97.body.isSome=true:=by kernel_rfl
  obtain ⟨c,hb⟩:=Option.isSome_iff_exists.1 hs
  simp[callFunc,Try.func97,h1,hb]
 none:=fun w a cap=>revnone97 a cap w
 turn:=fun w b off n cap vs hl hc hf h1 hn=>by
  obtain ⟨d,hd⟩:∃ d:Array One,d.toList.map (·.1)=vs:=⟨(vs.pmap Subtype.mk h1).toArray,by simp[List.map_pmap]⟩
  have hds:d.size=n:=by rw[← hl,← hd];simp
  have hH:Holds (fun x:One=>x.1) w b off d:=fun j hj=>by
   have hj':vs[j]?=some (d[j]!).1:=by rw[← hd,getElem!_pos d j hj];simp[hj]
   exact ⟨hc j _ hj',hf j (by omega)⟩
  have h:=rev97 (fun x:One=>x.1) (fun x=>x.2) b off cap d w hH (by omega)
  rw[hds] at h
  refine h.mono ?_
  rintro e w' ⟨rfl,q,rfl⟩
  refine ⟨rfl,q,?_⟩
  rw[rev_world _ w b off d d.reverse hH (by simp) q,← hd]
  simp
theorem ok97 {E:Env}:FnTab Try.prog E 97 (.sem [.io] revH):=rev_ok run97
end Go.Proofs.Ytdobhipbgpiceaa.DS
end
noncomputable section
namespace Go.Proofs.Ytdobhipbgpiceaa.D
open Go Go.Desk
def bodyOf (f:Func):Code:=match f.body with
 | some c=>c
 | none => .skip
def tyTab:List (Nat × TD):=[
 (2,⟨false,1,8,[.leaf],[.int .i64 0],.int .i64⟩),
 (3,⟨false,1,8,[.leaf],[.int .i64 0],.int .i64⟩),
 (4,⟨false,1,1,[.leaf],[.bool false],.bool⟩),
 (5,⟨false,1,1,[.leaf],[.int .u8 0],.int .u8⟩),
 (22,⟨false,1,24,[.sl .own [.leaf]],[.lst 0 []],.slc 5⟩),
 (24,⟨false,1,24,[.sl .own [.leaf]],[.lst 0 []],.slc 29⟩),
 (29,⟨false,1,4,[.leaf],[.flt .f32 0],.flt .f32⟩),
 (34,⟨false,1,8,[.leaf],[.flt .f64 0],.flt .f64⟩),
 (60,⟨false,1,24,[.sl .own [.leaf]],[.lst 0 []],.slc 2⟩),
 (68,⟨true,5,20,[.leaf,.leaf,.leaf,.leaf,.leaf],[.flt .f32 0,.flt .f32 0,.flt .f32 0,.flt .f32 0,.flt .f32 0],.st [(0,29),(1,29),(2,29),(3,29),(4,29)]⟩),
 (71,⟨true,4,16,[.leaf,.leaf,.leaf,.leaf],[.flt .f32 0,.flt .f32 0,.flt .f32 0,.flt .f32 0],.st [(0,29),(1,29),(2,29),(3,29)]⟩),
 (73,⟨false,1,24,[.sl .own [.leaf,.leaf,.leaf,.leaf]],[.lst 0 []],.slc 71⟩),
 (76,⟨false,1,24,[.sl .own [.leaf,.leaf,.leaf,.leaf,.leaf]],[.lst 0 []],.slc 68⟩),
 (105,⟨false,1,8,[.leaf],[.nil],.ptr 170⟩),
 (113,⟨false,1,4,[.leaf],[.int .u32 0],.int .u32⟩),
 (168,⟨false,1,8,[.leaf],[.int .u64 0],.int .u64⟩),
 (170,⟨true,3,40,[.sl .own [.leaf],.leaf,.leaf],[.lst 0 [],.int .i64 0,.int .u64 0],.st [(0,22),(1,3),(2,168)]⟩),
 (211,⟨false,1,8,[.leaf],[.int .u64 0],.int .u64⟩)]
def c7:Code:=bodyOf Try.f7
def c12:Code:=bodyOf Try.f12
def c14:Code:=bodyOf Try.f14
def c18:Code:=bodyOf Try.f18
def c21:Code:=bodyOf Try.f21
def c25:Code:=bodyOf Try.f25
def c42:Code:=bodyOf Try.f42
def c43:Code:=bodyOf Try.f43
def c44:Code:=bodyOf Try.f44
def c45:Code:=bodyOf Try.f45
def c46:Code:=bodyOf Try.f46
def c47:Code:=bodyOf Try.f47
def c48:Code:=bodyOf Try.f48
def c49:Code:=bodyOf Try.f49
def c64:Code:=bodyOf Try.f64
def c65:Code:=bodyOf Try.f65
def c66:Code:=bodyOf Try.f66
def c67:Code:=bodyOf Try.f67
def c73:Code:=bodyOf Try.f73
def c74:Code:=bodyOf Try.f74
def c81:Code:=bodyOf Try.f81
def c82:Code:=bodyOf Try.f82
def c84:Code:=bodyOf Try.f84
def c86:Code:=bodyOf Try.f86
def c91:Code:=bodyOf Try.f91
def c93:Code:=bodyOf Try.f93
def c94:Code:=bodyOf Try.f94
def c95:Code:=bodyOf Try.f95
def c96:Code:=bodyOf Try.f96
def c130:Code:=bodyOf Try.f130
def c134:Code:=bodyOf Try.f134
def c138:Code:=bodyOf Try.f138
def c139:Code:=bodyOf Try.f139
def c141:Code:=bodyOf Try.f141
def c142:Code:=bodyOf Try.f142
def c169:Code:=bodyOf Try.f169
def c176:Code:=bodyOf Try.f176
def c189:Code:=bodyOf Try.f189
def fnTab:List (Nat × FD):=[
 (7,.code c7 [.val,.val] [] [(4,none)] [(0,[0,1]),(1,[0,1]),(2,[]),(3,[0,1]),(4,[0,1,5]),(5,[0,1,5,6]),(6,[0,1,5,6,7]),(7,[0,1,5,6,7,8]),(8,[0,5,6,7,8,9]),(9,[5,6,7,8,9,10]),(10,[5,6,7,8,9,10,11,12,13]),(11,[5,6,8,9,10,11,12,13,14,15,16]),(12,[5,9,10,11,12,13,15,16,17,18,19]),(13,[]),(14,[5,9,10]),(15,[5,9,10,20,21]),(16,[5,9,20,21,22,24]),(17,[5,9,20,21,22,24,25,26]),(18,[5,20,21,22,24,25,26,27,29]),(19,[20,21,22,24,25,26,29,30,32])]),
 (12,.code c12 [.val,.val] [] [(4,none)] [(0,[0,1]),(1,[0,1])]),
 (14,.code c14 [.val,.val,.val] [] [(6,none)] [(0,[0,1,2]),(1,[0,1,2]),(2,[]),(3,[0,1,2])]),
 (18,.code c18 [.val,.val] [] [(4,none)] [(0,[0,1]),(1,[0,1]),(2,[0,1]),(3,[0,1])]),
 (21,.code c21 [.val,.val] [] [(4,none)] [(0,[0,1]),(1,[0,1]),(2,[1,5]),(3,[5,6])]),
 (25,.code c25 [.val,.val] [] [(4,none)] [(0,[0,1]),(1,[0,1]),(2,[]),(3,[0,1]),(4,[0,1,5]),(5,[0,1,5]),(6,[0,1,5]),(7,[]),(8,[]),(1000004,[4])]),
 (42,.code c42 [.val] [] [(2,some (true,5))] [(0,[0]),(1,[0,2]),(2,[2,3])]),
 (43,.code c43 [.val] [] [(2,some (true,4))] [(0,[0]),(1,[0,2]),(2,[2,3])]),
 (44,.code c44 [.val,.val,.val,.val,.val] [] [(10,none),(11,none),(12,none)] [(0,[0,1,2,3,4]),(1,[0,1,2,3,4]),(2,[]),(3,[0,1,2,3,4]),(4,[0,1,2,3,13]),(5,[0,1,2,3,13,14]),(6,[0,1,2,3,13,14,41,42,43]),(7,[0,1,2,3,13,14,41,42,43]),(8,[0,1,2,3,13,14,15,16,41,42,43]),(9,[0,1,2,3,14,17,18,41,42,43]),(10,[0,1,2,3,13,14,18,41,42,43]),(11,[0,1,2,3,13,14,41,42,43]),(12,[13,14]),(1000006,[13,14])]),
 (45,.code c45 [.val,.val,.val,.val,.val] [] [(10,none),(11,some (true,4)),(12,none)] [(0,[0,1,2,3,4]),(1,[1,2,4,5,8,11]),(2,[11]),(3,[1,2,4,5,8,11]),(4,[11,13,14])]),
 (46,.code c46 [.val,.val] [] [(4,none)] [(0,[0,1]),(1,[2,3])]),
 (47,.code c47 [.val,.val,.val] [] [(6,none),(7,none)] [(0,[0,1,2]),(1,[1,2,3]),(2,[]),(3,[1,2,3]),(4,[8])]),
 (48,.code c48 [.val,.val] [] [(4,none),(5,none)] [(0,[0,1]),(1,[1,2]),(2,[]),(3,[1,2]),(4,[2,6]),(5,[2,6,7]),(6,[2,6,7]),(7,[2,6,7]),(8,[2,6,7]),(9,[6]),(1000005,[6])]),
 (49,.code c49 [.val] [] [(2,none)] [(0,[0]),(1,[0]),(2,[0,3]),(3,[0,3,4]),(4,[0,3,4]),(5,[0,3,4]),(6,[3]),(1000003,[3])]),
 (64,.code c64 [.val] [] [(2,none)] [(0,[0]),(1,[0])]),
 (65,.code c65 [.iop] [0] [(2,none)] [(0,[0]),(1,[0]),(2,[0,3]),(3,[0,3]),(4,[0,3])]),
 (66,.code c66 [.val] [] [(2,none)] [(0,[0]),(1,[0])]),
 (67,.code c67 [.val,.val,.val] [] [(6,none)] [(0,[0,1,2]),(1,[0,1,2])]),
 (70,.ext (pF32bits)),
 (73,.code c73 [.iop,.val] [0] [(4,none)] [(0,[0,1]),(1,[0,1]),(2,[0,1,5]),(3,[0,1,5,6]),(4,[0,1,5,6]),(5,[0,1,5,6]),(6,[0,1,5,6]),(7,[0,1,5,6]),(8,[0,5]),(1000003,[0,5])]),
 (74,.code c74 [.iop,.val] [0] [(4,none)] [(0,[0,1]),(1,[0,1]),(2,[0]),(3,[0,1]),(4,[0,1,5]),(5,[0,1,5]),(6,[0,1,5])]),
 (81,.code c81 [.val] [] [(2,none)] [(0,[0]),(1,[0])]),
 (82,.code c82 [.val] [] [(2,none)] [(0,[0]),(1,[0]),(2,[0,3]),(3,[3]),(4,[3])]),
 (84,.code c84 [.val] [] [(2,none)] [(0,[0]),(1,[0])]),
 (86,.code c86 [.iop] [0] [(2,none)] [(0,[0]),(1,[0]),(2,[0]),(3,[0]),(4,[0,10]),(5,[0]),(6,[0,10]),(7,[0]),(8,[0,3]),(9,[0,10]),(10,[0]),(11,[0])]),
 (91,.code c91 [.val] [] [(2,none)] [(0,[0]),(1,[0])]),
 (93,.code c93 [.iop] [0] [(2,some (true,5))] [(0,[0]),(1,[0,2]),(2,[0,2,3]),(3,[0,2,3]),(4,[0,2,3]),(5,[0,2,3]),(6,[0,2,3]),(7,[0,2,3]),(8,[0,2,3]),(9,[0,2,3]),(10,[0,2,3])]),
 (94,.code c94 [.iop] [0] [(2,some (true,4))] [(0,[0]),(1,[0,2]),(2,[0,2]),(3,[0,2]),(4,[0,2,3]),(5,[0,2,3]),(6,[0,2,3]),(7,[0,2,3])]),
 (95,.code c95 [.val] [] [(2,none)] [(0,[0]),(1,[0])]),
 (96,.code c96 [.val,.val,.val,.val,.val] [] [(10,none),(11,some (true,4))] [(0,[0,1,2,3,4]),(1,[1,2,4,5,8,11]),(2,[1,2,4,5,8,11,12]),(3,[1,2,4,5,8,11,12,17,18,19]),(4,[1,2,4,5,8,11,12,17,18,19]),(5,[1,2,4,5,8,11,12,14,17,18,19]),(6,[1,2,4,5,8,11,12,15,16,17,18,19]),(7,[1,2,4,5,8,11,12,15,17,18,19]),(8,[1,2,4,5,8,11,12,17,18,19]),(9,[8,11,12]),(1000003,[8,11,12])]),
 (97,.sem [.io] (revH)),
 (130,.code c130 [.iop,.val] [0] [(4,none)] [(0,[0,1]),(1,[0,1])]),
 (134,.code c134 [.iop] [0] [(2,none)] [(0,[0]),(1,[0]),(2,[0,3]),(3,[0]),(4,[0,3]),(5,[0,3]),(6,[0,3]),(7,[0,3]),(8,[0])]),
 (138,.code c138 [.val] [] [(2,none)] [(0,[0]),(1,[0])]),
 (139,.code c139 [.iop,.io] [0,1] [(4,none)] [(0,[0,1]),(1,[0,1])]),
 (141,.code c141 [.iop] [0] [(2,none)] [(0,[0]),(1,[0]),(2,[0]),(3,[0]),(4,[0]),(5,[0])]),
 (142,.code c142 [.val,.val,.val,.val,.val] [] [(10,none),(11,some (true,4))] [(0,[0,1,2,3,4]),(1,[1,2,4,5,8,11]),(2,[1,2,4,5,8,11]),(3,[2,4,5,8,11]),(4,[2,5,8,11,13]),(5,[2,8,11,12,13]),(6,[1,2,4,5,8,11,14]),(7,[2,4,5,8,11]),(8,[2,4,8,11,12]),(9,[2,4,8,11,12]),(10,[1,2,4,5,8,11,14]),(11,[2,4,5,8,11]),(12,[2,4,5,8,11,12]),(13,[2,8,11,12])]),
 (169,.code c169 [.val] [] [(2,none)] [(0,[0]),(1,[0]),(2,[0]),(3,[0])]),
 (175,.ext (pF32frombits)),
 (176,.code c176 [.val,.val] [] [(4,none)] [(0,[0,1]),(1,[0,1]),(2,[0]),(3,[0])]),
 (189,.code c189 [.val] [] [(2,none)] [(0,[0]),(1,[0])]),
 (190,.ext (pCopysign))]
def E:Env:=⟨fun t=>lookT tyTab t,lookF fnTab⟩
def fdAt (n:Nat):FD:=match lookF fnTab n with
 | some d=>d
 | none => .ext fun _=>none
def keepAt (n:Nat):List (Nat × List Nat):=match lookF fnTab n with
 | some d=>d.keep
 | none=>[]
theorem tysOk:TysOk Try.prog E:=tysOk_of (l:=tyTab) (fun _=>rfl) (by kernel_rfl)
abbrev FT (f:Nat):Prop:=FnTab Try.prog E f (fdAt f)
theorem ftS {f : Nat} {fn : Func} (c : Code) (hf : Try.prog.funcs[f]? = some fn) (hn : (fn.name == "runtime.NumGoroutine") = false := by kernel_rfl) (hb : fn.body = some c := by kernel_rfl) (h : tabOk E fn c (fdAt f).ms (fdAt f).os (fdAt f).rs = true := by kernel_rfl) (hd : fdAt f = .code c (fdAt f).ms (fdAt f).os (fdAt f).rs (fdAt f).keep := by kernel_rfl) : FT f := by unfold FT; rw [hd]; exact fnTab_code hf hn hb h
theorem ft7:FT 7:=ftS c7 Try.func7
theorem ft12:FT 12:=ftS c12 Try.func12
theorem ft14:FT 14:=ftS c14 Try.func14
theorem ft18:FT 18:=ftS c18 Try.func18
theorem ft21:FT 21:=ftS c21 Try.func21
theorem ft25:FT 25:=ftS c25 Try.func25
theorem ft42:FT 42:=ftS c42 Try.func42
theorem ft43:FT 43:=ftS c43 Try.func43
theorem ft44:FT 44:=ftS c44 Try.func44
theorem ft45:FT 45:=ftS c45 Try.func45
theorem ft46:FT 46:=ftS c46 Try.func46
theorem ft47:FT 47:=ftS c47 Try.func47
theorem ft48:FT 48:=ftS c48 Try.func48
theorem ft49:FT 49:=ftS c49 Try.func49
theorem ft64:FT 64:=ftS c64 Try.func64
theorem ft65:FT 65:=ftS c65 Try.func65
theorem ft66:FT 66:=ftS c66 Try.func66
theorem ft67:FT 67:=ftS c67 Try.func67
theorem ft70:FnTab Try.prog E 70 (.ext (pF32bits)):=ext_pF32bits Try.func70 (by kernel_rfl) (by kernel_rfl) (by kernel_rfl) (by kernel_rfl)
theorem ft73:FT 73:=ftS c73 Try.func73
theorem ft74:FT 74:=ftS c74 Try.func74
theorem ft81:FT 81:=ftS c81 Try.func81
theorem ft82:FT 82:=ftS c82 Try.func82
theorem ft84:FT 84:=ftS c84 Try.func84
theorem ft86:FT 86:=ftS c86 Try.func86
theorem ft91:FT 91:=ftS c91 Try.func91
theorem ft93:FT 93:=ftS c93 Try.func93
theorem ft94:FT 94:=ftS c94 Try.func94
theorem ft95:FT 95:=ftS c95 Try.func95
theorem ft96:FT 96:=ftS c96 Try.func96
theorem ft97:FnTab Try.prog E 97 (.sem [.io] (revH)):=DS.ok97
theorem ft130:FT 130:=ftS c130 Try.func130
theorem ft134:FT 134:=ftS c134 Try.func134
theorem ft138:FT 138:=ftS c138 Try.func138
theorem ft139:FT 139:=ftS c139 Try.func139
theorem ft141:FT 141:=ftS c141 Try.func141
theorem ft142:FT 142:=ftS c142 Try.func142
theorem ft169:FT 169:=ftS c169 Try.func169
theorem ft175:FnTab Try.prog E 175 (.ext (pF32frombits)):=ext_pF32frombits Try.func175 (by kernel_rfl) (by kernel_rfl) (by kernel_rfl) (by kernel_rfl)
theorem ft176:FT 176:=ftS c176 Try.func176
theorem ft189:FT 189:=ftS c189 Try.func189
theorem ft190:FnTab Try.prog E 190 (.ext (pCopysign)):=DC.signOk
theorem allFns:AllFns Try.prog E fnTab:=.cons ft7 (.cons ft12 (.cons ft14 (.cons ft18 (.cons ft21 (.cons ft25 (.cons ft42 (.cons ft43 (.cons ft44 (.cons ft45 (.cons ft46 (.cons ft47 (.cons ft48 (.cons ft49 (.cons ft64 (.cons ft65 (.cons ft66 (.cons ft67 (.cons ft70 (.cons ft73 (.cons ft74 (.cons ft81 (.cons ft82 (.cons ft84 (.cons ft86 (.cons ft91 (.cons ft93 (.cons ft94 (.cons ft95 (.cons ft96 (.cons ft97 (.cons ft130 (.cons ft134 (.cons ft138 (.cons ft139 (.cons ft141 (.cons ft142 (.cons ft169 (.cons ft175 (.cons ft176 (.cons ft189 (.cons ft190 (.nil))))))))))))))))))))))))))))))))))))))))))
theorem fnOk:∀ f fd,E.fn f=some fd→FnTab Try.prog E f fd:=fnTab_of (l:=fnTab) (fun _=>rfl) allFns
abbrev FnS {V X:Type} (no:Nat) (P:List Arg) (S:Sig V) (A:RAlt X) (F:Nat→V→Option X):Prop:=∀ n v x,F n v=some x→evalFn E n no (flAs P (S.pk v))=some (A.enc x)
theorem fnS {V X:Type} {no:Nat} {P:List Arg} {S:Sig V} {A:RAlt X} {F:Nat→V→Option X} (c:Code) (O:Nat→Orc) (bs:List Code:=[]) (ha:∀ n,AllLp (O n) E (evalFn E n) n (keepAt no) bs:=by intro _;exact .nil) (hf:E.fn no=some (.code c (fdAt no).ms (fdAt no).os (fdAt no).rs (keepAt no)):=by kernel_rfl) (hO:∀ n,(O n).CfOk (evalFn E n):=by intro n;exact orcOf_cf _ _ n) (hb:topLoops c=bs:=by kernel_rfl) (h0:∀ v,F 0 v=none:=by intro _;rfl) (hs:∀ n v,F (n+1) v=fnK E (O n) no (flAs P (S.pk v)) A.dec:=by intro _ _;kernel_rfl):FnS no P S A F:=fn_pure O hf hO (fun n=>lpOk_of hb (ha n)) h0 hs
abbrev LpS (no:Nat) (c:Code) (i n:Nat) (O:Orc):Prop:=LpOk O E (evalFn E n) n (keepAt no) (.loop (loopAt c i))
theorem lpS {V X:Type} {no i:Nat} {c:Code} {O:Nat→Orc} (P:AS) (S:Sig V) (A:Alt X) (L:Nat→Nat→V→Option X) (bs:List Code:=[]) (ha:∀ n,AllLp (O n) E (evalFn E n) n (keepAt no) bs:=by intro _;exact .nil) (hO:∀ n,(O n).CfOk (evalFn E n):=by intro n;exact orcOf_cf _ _ n) (hb:topLoops (loopAt c i)=bs:=by kernel_rfl) (h0:∀ n v,L n 0 v=none:=by intro _ _;rfl)
  (hs:∀ n m v,L n (m+1) v=codeK E (O n) (keepAt no) (loopAt c i) (flAS P (S.pk v)) (fun ex σ'=>match ex with
    | .normal=>bd (mtAS P (Go.Desk.settle (keepOf (keepAt no) (firstId (loopAt c i))) σ')) fun ls=>bd (S.up ls) (L n m)
    | .exit id=>A.dec (.exit id) (Go.Desk.settle (keepOf (keepAt no) (outId (loopAt c i))) σ')
    | .ret=>A.dec .ret (Go.Desk.settle (keepOf (keepAt no) (outId (loopAt c i))) σ')):=by intro _ _ _;kernel_rfl)
  (hW:∀ n (β:Type) (σ:AS) (k:Ex→AS→Option β),(O n).lp (lid (loopAt c i)) σ k=bd (mtAS P σ) fun ls=>bd (S.up ls) fun v=>bd (L n n v) fun x=>A.out x k:=by intro _ _ _ _;kernel_rfl):∀ n,LpS no c i n (O n):=fun n=>lp_pure P S A (L n) (hO n) (lpOk_of hb (ha n)) (h0 n) (hs n) (hW n)
end Go.Proofs.Ytdobhipbgpiceaa.D
end
noncomputable section
namespace Go.Proofs.Ytdobhipbgpiceaa.D
open Go Go.Desk
abbrev qV0:Go.Desk.V:=⟨true,[.leaf,.leaf,.leaf,.leaf,.leaf],[.flt .f32 0,.flt .f32 0,.flt .f32 0,.flt .f32 0,.flt .f32 0]⟩
abbrev qV1:Go.Desk.V:=⟨false,[.rf .own [.sl .shr [.leaf],.leaf,.leaf]],[.ref [.lst 0 [],.int .i64 0,.int .u64 0]]⟩
abbrev qV2:Go.Desk.V:=⟨true,[.leaf,.leaf,.leaf,.leaf],[.flt .f32 0,.flt .f32 0,.flt .f32 0,.flt .f32 0]⟩
abbrev qV3:Go.Desk.V:=⟨false,[.sl .shr [.leaf]],[.lst 0 []]⟩
abbrev qV4:Go.Desk.V:=⟨false,[.sl .own [.leaf]],[.lst 0 []]⟩
abbrev qV5:Go.Desk.V:=⟨false,[.leaf],[.bool false]⟩
abbrev qV6:Go.Desk.V:=⟨false,[.leaf],[.int .i64 0]⟩
abbrev qV7:Go.Desk.V:=⟨false,[.leaf],[.flt .f32 0]⟩
abbrev qA8:Arg:=⟨.val,qV3⟩
abbrev qA9:Arg:=⟨.iop,qV1⟩
abbrev qA10:Arg:=⟨.val,qV6⟩
abbrev qA11:Arg:=⟨.val,qV7⟩
abbrev qA12:Arg:=⟨.val,qV5⟩
abbrev qA13:Arg:=⟨.val,qV0⟩
abbrev qA14:Arg:=⟨.val,qV2⟩
abbrev qS15:Slot:=.val false [.sl .own [.leaf]] [.lst 0 []] [] 0
abbrev qS16:Slot:=.val false [.sl .shr [.leaf]] [.lst 0 []] [] 0
abbrev qS17:Slot:=.val false [.leaf] [.int .i64 0] [] 0
abbrev qS18:Slot:=.val false [.leaf] [.bool false] [] 0
set_option linter.unusedVariables false
def x175.w:FnW E:=xF32frombits.w 175 (by kernel_rfl)
def x70.w:FnW E:=xF32bits.w 70 (by kernel_rfl)
def x190.w:FnW E:=xCopysign.w 190 (by kernel_rfl)
def x97.w:FnW E:=xReverse.w 97 (by kernel_rfl)
def f12:Nat→Nat→List T→Nat→List T→Option (Bool)
 | 0,_,_,_,_=>none
 | n+1,n1,l2,n3,l4 =>
   br (decide ((n1:Int)>(48:Int))) (
    some true) (
    some (decide ((n3:Int)>(48:Int))))
def sg_ll:Sig (Nat × List T × Nat × List T) where
 pk:=fun v=>[.lst v.1 v.2.1,.lst v.2.2.1 v.2.2.2]
 up:=fun ls=>match ls with
  | [.lst a0 a1,.lst a2 a3]=>some (a0,a1,a2,a3)
  | _=>none
 ok:=by intro _ _ h;split at h <;>cases h;rfl
def sg_b:Sig (Bool) where
 pk:=fun v=>[.bool v]
 up:=fun ls=>match ls with
  | [.bool a0]=>some a0
  | _=>none
 ok:=by intro _ _ h;split at h <;>cases h;rfl
def f12.P:List Arg:=[qA8,qA8]
def f12.A:RAlt (Bool):=.one ⟨[qV5],[none,none]⟩ sg_b
def f12.F (n:Nat) (v:Nat × List T × Nat × List T):=f12 n v.1 v.2.1 v.2.2.1 v.2.2.2
def f12.O (n:Nat):Orc:=orcOf (E:=E) [] [] n
theorem f12.ok:FnS 12 f12.P sg_ll f12.A f12.F:=fnS c12 f12.O
def f12.w:FnW E:=fnW 12 f12.P sg_ll f12.A f12.F f12.ok
def f64:Nat→Nat→List T→Option (Nat × List T × Int × Int)
 | 0,_,_=>none
 | n+1,n1,l2 =>
   some (n1,l2,(0:Int),(0:Int))
def sg_l:Sig (Nat × List T) where
 pk:=fun v=>[.lst v.1 v.2]
 up:=fun ls=>match ls with
  | [.lst a0 a1]=>some (a0,a1)
  | _=>none
 ok:=by intro _ _ h;split at h <;>cases h;rfl
def sg_lii:Sig (Nat × List T × Int × Int) where
 pk:=fun v=>[.lst v.1 v.2.1,.int v.2.2.1,.int v.2.2.2]
 up:=fun ls=>match ls with
  | [.lst a0 a1,.int a2,.int a3]=>some (a0,a1,a2,a3)
  | _=>none
 ok:=by intro _ _ h;split at h <;>cases h;rfl
def f64.P:List Arg:=[qA8]
def f64.A:RAlt (Nat × List T × Int × Int):=.one ⟨[qV1],[none]⟩ sg_lii
def f64.F (n:Nat) (v:Nat × List T):=f64 n v.1 v.2
def f64.O (n:Nat):Orc:=orcOf (E:=E) [] [] n
theorem f64.ok:FnS 64 f64.P sg_l f64.A f64.F:=fnS c64 f64.O
def f64.w:FnW E:=fnW 64 f64.P sg_l f64.A f64.F f64.ok
def f134:Nat→Nat→List T→Int→Int→Option (Int × Nat × List T × Int × Int)
 | 0,_,_,_,_=>none
 | n+1,n1,l2,i3,i4 =>
   br (decide (i3<(n1:Int))) (
    gd ((decide ((0≤i3)∧(i3<(n1:Int))))&&(okAt [(CK.int .u8)] l2 (Int.toNat i3))) (
    let i5:=(IntKind.i64.wrap (iAt l2 (Int.toNat i3)))
    let i6:=(IntKind.i64.wrap (i3+(1:Int)))
    let i7:=(IntKind.u64.wrap ((IntKind.u64.wrap ((IntKind.u64.wrap (i4 * (6364136223846793005:Int)))+(IntKind.u64.wrap i5)))+(1442695040888963407:Int)))
    br (decide (i6≤(n1:Int))) (
     some (i5,n1,l2,i6,i7)) (
     some ((IntKind.i64.wrap (intBits BinOp.and .u64 (Int.fdiv i7 (1099511627776:Int)) (255:Int))),n1,l2,i6,i7)))) (
    let i8:=(IntKind.i64.wrap (i3+(1:Int)))
    let i9:=(IntKind.u64.wrap ((IntKind.u64.wrap ((IntKind.u64.wrap (i4 * (6364136223846793005:Int)))+(0:Int)))+(1442695040888963407:Int)))
    br (decide (i8≤(n1:Int))) (
     some ((0:Int),n1,l2,i8,i9)) (
     some ((IntKind.i64.wrap (intBits BinOp.and .u64 (Int.fdiv i9 (1099511627776:Int)) (255:Int))),n1,l2,i8,i9)))
def sg_ilii:Sig (Int × Nat × List T × Int × Int) where
 pk:=fun v=>[.int v.1,.lst v.2.1 v.2.2.1,.int v.2.2.2.1,.int v.2.2.2.2]
 up:=fun ls=>match ls with
  | [.int a0,.lst a1 a2,.int a3,.int a4]=>some (a0,a1,a2,a3,a4)
  | _=>none
 ok:=by intro _ _ h;split at h <;>cases h;rfl
def f134.P:List Arg:=[qA9]
def f134.A:RAlt (Int × Nat × List T × Int × Int):=.one ⟨[qV6],[some qV1]⟩ sg_ilii
def f134.F (n:Nat) (v:Nat × List T × Int × Int):=f134 n v.1 v.2.1 v.2.2.1 v.2.2.2
def f134.O (n:Nat):Orc:=orcOf (E:=E) [] [] n
theorem f134.ok:FnS 134 f134.P sg_lii f134.A f134.F:=fnS c134 f134.O
def f134.w:FnW E:=fnW 134 f134.P sg_lii f134.A f134.F f134.ok
def f74:Nat→Nat→List T→Int→Int→Int→Option (Int × Nat × List T × Int × Int)
 | 0,_,_,_,_,_=>none
 | n+1,n1,l2,i3,i4,i5 =>
   br (decide (i5≤(1:Int))) (
    some ((0:Int),n1,l2,i3,i4)) (
    bd (f134 n n1 l2 i3 i4) fun r6 =>
    let i7:=r6.1
    let n8:=r6.2.1
    let l9:=r6.2.2.1
    let i10:=r6.2.2.2.1
    let i11:=r6.2.2.2.2
    br (decide (i5>(200:Int))) (
     bd (f134 n n8 l9 i10 i11) fun r12 =>
     let i13:=r12.1
     let n14:=r12.2.1
     let l15:=r12.2.2.1
     let i16:=r12.2.2.2.1
     let i17:=r12.2.2.2.2
     let i18:=(IntKind.i64.wrap ((IntKind.i64.wrap (i7 * (256:Int)))+i13))
     gd (!(decide (i5=(0:Int)))) (
     some ((Int.tmod i18 i5),n14,l15,i16,i17))) (
     gd (!(decide (i5=(0:Int)))) (
     some ((Int.tmod i7 i5),n8,l9,i10,i11))))
def sg_liii:Sig (Nat × List T × Int × Int × Int) where
 pk:=fun v=>[.lst v.1 v.2.1,.int v.2.2.1,.int v.2.2.2.1,.int v.2.2.2.2]
 up:=fun ls=>match ls with
  | [.lst a0 a1,.int a2,.int a3,.int a4]=>some (a0,a1,a2,a3,a4)
  | _=>none
 ok:=by intro _ _ h;split at h <;>cases h;rfl
def f74.P:List Arg:=[qA9,qA10]
def f74.A:RAlt (Int × Nat × List T × Int × Int):=.one ⟨[qV6],[some qV1,none]⟩ sg_ilii
def f74.F (n:Nat) (v:Nat × List T × Int × Int × Int):=f74 n v.1 v.2.1 v.2.2.1 v.2.2.2.1 v.2.2.2.2
def f74.O (n:Nat):Orc:=orcOf (E:=E) [f134.w] [] n
theorem f74.ok:FnS 74 f74.P sg_liii f74.A f74.F:=fnS c74 f74.O
def f74.w:FnW E:=fnW 74 f74.P sg_liii f74.A f74.F f74.ok
def f130:Nat→Nat→List T→Int→Int→Int→Option (Bool × Nat × List T × Int × Int)
 | 0,_,_,_,_,_=>none
 | n+1,n1,l2,i3,i4,i5 =>
   bd (f74 n n1 l2 i3 i4 i5) fun r6 =>
   let i7:=r6.1
   let n8:=r6.2.1
   let l9:=r6.2.2.1
   let i10:=r6.2.2.2.1
   let i11:=r6.2.2.2.2
   some ((i7==(0:Int)),n8,l9,i10,i11)
def sg_blii:Sig (Bool × Nat × List T × Int × Int) where
 pk:=fun v=>[.bool v.1,.lst v.2.1 v.2.2.1,.int v.2.2.2.1,.int v.2.2.2.2]
 up:=fun ls=>match ls with
  | [.bool a0,.lst a1 a2,.int a3,.int a4]=>some (a0,a1,a2,a3,a4)
  | _=>none
 ok:=by intro _ _ h;split at h <;>cases h;rfl
def f130.P:List Arg:=[qA9,qA10]
def f130.A:RAlt (Bool × Nat × List T × Int × Int):=.one ⟨[qV5],[some qV1,none]⟩ sg_blii
def f130.F (n:Nat) (v:Nat × List T × Int × Int × Int):=f130 n v.1 v.2.1 v.2.2.1 v.2.2.2.1 v.2.2.2.2
def f130.O (n:Nat):Orc:=orcOf (E:=E) [f74.w] [] n
theorem f130.ok:FnS 130 f130.P sg_liii f130.A f130.F:=fnS c130 f130.O
def f130.w:FnW E:=fnW 130 f130.P sg_liii f130.A f130.F f130.ok
def f65:Nat→Nat→List T→Int→Int→Option (Nat × Nat × List T × Int × Int)
 | 0,_,_,_,_=>none
 | n+1,n1,l2,i3,i4 =>
   bd (f74 n n1 l2 i3 i4 (129:Int)) fun r5 =>
   let i6:=r5.1
   let n7:=r5.2.1
   let l8:=r5.2.2.1
   let i9:=r5.2.2.2.1
   let i10:=r5.2.2.2.2
   let i11:=(IntKind.i64.wrap (i6 - (64:Int)))
   bd (f130 n n7 l8 i9 i10 (4:Int)) fun r12 =>
   let b13:=r12.1
   let n14:=r12.2.1
   let l15:=r12.2.2.1
   let i16:=r12.2.2.2.1
   let i17:=r12.2.2.2.2
   br b13 (
    some ((fdiv .f32 (FloatKind.nearest .f32 i11) 1088421888),n14,l15,i16,i17)) (
    some ((fdiv .f32 (FloatKind.nearest .f32 i11) 1098907648),n14,l15,i16,i17))
def sg_flii:Sig (Nat × Nat × List T × Int × Int) where
 pk:=fun v=>[.flt v.1,.lst v.2.1 v.2.2.1,.int v.2.2.2.1,.int v.2.2.2.2]
 up:=fun ls=>match ls with
  | [.flt a0,.lst a1 a2,.int a3,.int a4]=>some (a0,a1,a2,a3,a4)
  | _=>none
 ok:=by intro _ _ h;split at h <;>cases h;rfl
def f65.P:List Arg:=[qA9]
def f65.A:RAlt (Nat × Nat × List T × Int × Int):=.one ⟨[qV7],[some qV1]⟩ sg_flii
def f65.F (n:Nat) (v:Nat × List T × Int × Int):=f65 n v.1 v.2.1 v.2.2.1 v.2.2.2
def f65.O (n:Nat):Orc:=orcOf (E:=E) [f74.w,f130.w] [] n
theorem f65.ok:FnS 65 f65.P sg_lii f65.A f65.F:=fnS c65 f65.O
def f65.w:FnW E:=fnW 65 f65.P sg_lii f65.A f65.F f65.ok
def f139:Nat→Nat→List T→Int→Int→Nat→List T→Option (Int × Nat × List T × Int × Int × Nat × List T)
 | 0,_,_,_,_,_,_=>none
 | n+1,n1,l2,i3,i4,n5,l6 =>
   bd (f74 n n1 l2 i3 i4 (n5:Int)) fun r7 =>
   let i8:=r7.1
   let n9:=r7.2.1
   let l10:=r7.2.2.1
   let i11:=r7.2.2.2.1
   let i12:=r7.2.2.2.2
   gd (decide ((0≤i8)∧(i8<(n5:Int)))) (
   gd (okAt [(CK.int .i64)] l6 (Int.toNat i8)) (
   some ((iAt l6 (Int.toNat i8)),n9,l10,i11,i12,n5,l6)))
def sg_liil:Sig (Nat × List T × Int × Int × Nat × List T) where
 pk:=fun v=>[.lst v.1 v.2.1,.int v.2.2.1,.int v.2.2.2.1,.lst v.2.2.2.2.1 v.2.2.2.2.2]
 up:=fun ls=>match ls with
  | [.lst a0 a1,.int a2,.int a3,.lst a4 a5]=>some (a0,a1,a2,a3,a4,a5)
  | _=>none
 ok:=by intro _ _ h;split at h <;>cases h;rfl
def sg_iliil:Sig (Int × Nat × List T × Int × Int × Nat × List T) where
 pk:=fun v=>[.int v.1,.lst v.2.1 v.2.2.1,.int v.2.2.2.1,.int v.2.2.2.2.1,.lst v.2.2.2.2.2.1 v.2.2.2.2.2.2]
 up:=fun ls=>match ls with
  | [.int a0,.lst a1 a2,.int a3,.int a4,.lst a5 a6]=>some (a0,a1,a2,a3,a4,a5,a6)
  | _=>none
 ok:=by intro _ _ h;split at h <;>cases h;rfl
def f139.P:List Arg:=[qA9,⟨.io,qV4⟩]
def f139.A:RAlt (Int × Nat × List T × Int × Int × Nat × List T):=.one ⟨[qV6],[some qV1,some qV4]⟩ sg_iliil
def f139.F (n:Nat) (v:Nat × List T × Int × Int × Nat × List T):=f139 n v.1 v.2.1 v.2.2.1 v.2.2.2.1 v.2.2.2.2.1 v.2.2.2.2.2
def f139.O (n:Nat):Orc:=orcOf (E:=E) [f74.w] [] n
theorem f139.ok:FnS 139 f139.P sg_liil f139.A f139.F:=fnS c139 f139.O
def f139.w:FnW E:=fnW 139 f139.P sg_liil f139.A f139.F f139.ok
def f138:Nat→Int→Option (Nat)
 | 0,_=>none
 | n+1,i1 =>
   bd (xF32frombits n (IntKind.u32.wrap i1)) fun r2 =>
   let x3:=r2
   some x3
def sg_i:Sig (Int) where
 pk:=fun v=>[.int v]
 up:=fun ls=>match ls with
  | [.int a0]=>some a0
  | _=>none
 ok:=by intro _ _ h;split at h <;>cases h;rfl
def sg_f:Sig (Nat) where
 pk:=fun v=>[.flt v]
 up:=fun ls=>match ls with
  | [.flt a0]=>some a0
  | _=>none
 ok:=by intro _ _ h;split at h <;>cases h;rfl
def f138.P:List Arg:=[qA10]
def f138.A:RAlt (Nat):=.one ⟨[qV7],[none]⟩ sg_f
def f138.F (n:Nat) (v:Int):=f138 n v
def f138.O (n:Nat):Orc:=orcOf (E:=E) [x175.w] [] n
theorem f138.ok:FnS 138 f138.P sg_i f138.A f138.F:=fnS c138 f138.O
def f138.w:FnW E:=fnW 138 f138.P sg_i f138.A f138.F f138.ok
def f86:Nat→Nat→List T→Int→Int→Option (Nat × Nat × List T × Int × Int)
 | 0,_,_,_,_=>none
 | n+1,n1,l2,i3,i4 =>
   bd (f130 n n1 l2 i3 i4 (12:Int)) fun r5 =>
   let b6:=r5.1
   let n7:=r5.2.1
   let l8:=r5.2.2.1
   let i9:=r5.2.2.2.1
   let i10:=r5.2.2.2.2
   br (!b6) (
    bd (f65 n n7 l8 i9 i10) fun r11 =>
    let x12:=r11.1
    let n13:=r11.2.1
    let l14:=r11.2.2.1
    let i15:=r11.2.2.2.1
    let i16:=r11.2.2.2.2
    some (x12,n13,l14,i15,i16)) (
    bd (f74 n n7 l8 i9 i10 (4:Int)) fun r17 =>
    let i18:=r17.1
    let n19:=r17.2.1
    let l20:=r17.2.2.1
    let i21:=r17.2.2.2.1
    let i22:=r17.2.2.2.2
    br (i18==(0:Int)) (
     bd (f139 n n19 l20 i21 i22 10 (setN (setN (setN (setN (setN (setN (setN (setN (setN (setN (reps 10 [(T.int .i64 (0:Int))]) 0 [(T.int .i64 (0:Int))]) 1 [(T.int .i64 (2147483648:Int))]) 2 [(T.int .i64 (2139095040:Int))]) 3 [(T.int .i64 (4286578688:Int))]) 4 [(T.int .i64 (2143289344:Int))]) 5 [(T.int .i64 (1:Int))]) 6 [(T.int .i64 (2139095039:Int))]) 7 [(T.int .i64 (8388608:Int))]) 8 [(T.int .i64 (8388607:Int))]) 9 [(T.int .i64 (2147483649:Int))])) fun r23 =>
     let i24:=r23.1
     let n25:=r23.2.1
     let l26:=r23.2.2.1
     let i27:=r23.2.2.2.1
     let i28:=r23.2.2.2.2.1
     bd (f138 n i24) fun r31 =>
     let x32:=r31
     some (x32,n25,l26,i27,i28)) (
     br (i18==(1:Int)) (
      bd (f74 n n19 l20 i21 i22 (65536:Int)) fun r33 =>
      let i34:=r33.1
      let n35:=r33.2.1
      let l36:=r33.2.2.1
      let i37:=r33.2.2.2.1
      let i38:=r33.2.2.2.2
      let i39:=(IntKind.i64.wrap (i34 * (65536:Int)))
      bd (f74 n n35 l36 i37 i38 (65536:Int)) fun r40 =>
      let i41:=r40.1
      let n42:=r40.2.1
      let l43:=r40.2.2.1
      let i44:=r40.2.2.2.1
      let i45:=r40.2.2.2.2
      bd (f138 n (IntKind.i64.wrap (i39+i41))) fun r46 =>
      let x47:=r46
      some (x47,n42,l43,i44,i45)) (
      br (i18==(2:Int)) (
       bd (f74 n n19 l20 i21 i22 (65536:Int)) fun r48 =>
       let i49:=r48.1
       let n50:=r48.2.1
       let l51:=r48.2.2.1
       let i52:=r48.2.2.2.1
       let i53:=r48.2.2.2.2
       bd (f138 n (IntKind.i64.wrap (i49 * (65536:Int)))) fun r54 =>
       let x55:=r54
       some (x55,n50,l51,i52,i53)) (
       bd (f65 n n19 l20 i21 i22) fun r56 =>
       let x57:=r56.1
       let n58:=r56.2.1
       let l59:=r56.2.2.1
       let i60:=r56.2.2.2.1
       let i61:=r56.2.2.2.2
       bd (f139 n n58 l59 i60 i61 4 (setN (setN (setN (setN (reps 4 [(T.int .i64 (0:Int))]) 0 [(T.int .i64 (8388608:Int))]) 1 [(T.int .i64 (2130706432:Int))]) 2 [(T.int .i64 (1610612736:Int))]) 3 [(T.int .i64 (536870912:Int))])) fun r62 =>
       let i63:=r62.1
       let n64:=r62.2.1
       let l65:=r62.2.2.1
       let i66:=r62.2.2.2.1
       let i67:=r62.2.2.2.2.1
       bd (f138 n i63) fun r70 =>
       let x71:=r70
       some ((fmul .f32 x57 x71),n64,l65,i66,i67)))))
def f86.P:List Arg:=[qA9]
def f86.A:RAlt (Nat × Nat × List T × Int × Int):=.one ⟨[qV7],[some qV1]⟩ sg_flii
def f86.F (n:Nat) (v:Nat × List T × Int × Int):=f86 n v.1 v.2.1 v.2.2.1 v.2.2.2
def f86.O (n:Nat):Orc:=orcOf (E:=E) [f74.w,f130.w,f65.w,f139.w,f138.w] [] n
theorem f86.ok:FnS 86 f86.P sg_lii f86.A f86.F:=fnS c86 f86.O
def f86.w:FnW E:=fnW 86 f86.P sg_lii f86.A f86.F f86.ok
def f141:Nat→Nat→List T→Int→Int→Option (Nat × Nat × List T × Int × Int)
 | 0,_,_,_,_=>none
 | n+1,n1,l2,i3,i4 =>
   bd (f130 n n1 l2 i3 i4 (8:Int)) fun r5 =>
   let b6:=r5.1
   let n7:=r5.2.1
   let l8:=r5.2.2.1
   let i9:=r5.2.2.2.1
   let i10:=r5.2.2.2.2
   br b6 (
    bd (f86 n n7 l8 i9 i10) fun r11 =>
    let x12:=r11.1
    let n13:=r11.2.1
    let l14:=r11.2.2.1
    let i15:=r11.2.2.2.1
    let i16:=r11.2.2.2.2
    some (x12,n13,l14,i15,i16)) (
    bd (f130 n n7 l8 i9 i10 (3:Int)) fun r17 =>
    let b18:=r17.1
    let n19:=r17.2.1
    let l20:=r17.2.2.1
    let i21:=r17.2.2.2.1
    let i22:=r17.2.2.2.2
    br b18 (
     some (0,n19,l20,i21,i22)) (
     bd (f74 n n19 l20 i21 i22 (33:Int)) fun r23 =>
     let i24:=r23.1
     let n25:=r23.2.1
     let l26:=r23.2.2.1
     let i27:=r23.2.2.2.1
     let i28:=r23.2.2.2.2
     some ((fdiv .f32 (FloatKind.nearest .f32 (IntKind.i64.wrap (i24 - (16:Int)))) 1090519040),n25,l26,i27,i28)))
def f141.P:List Arg:=[qA9]
def f141.A:RAlt (Nat × Nat × List T × Int × Int):=.one ⟨[qV7],[some qV1]⟩ sg_flii
def f141.F (n:Nat) (v:Nat × List T × Int × Int):=f141 n v.1 v.2.1 v.2.2.1 v.2.2.2
def f141.O (n:Nat):Orc:=orcOf (E:=E) [f74.w,f130.w,f86.w] [] n
theorem f141.ok:FnS 141 f141.P sg_lii f141.A f141.F:=fnS c141 f141.O
def f141.w:FnW E:=fnW 141 f141.P sg_lii f141.A f141.F f141.ok
def f93:Nat→Nat→List T→Int→Int→Option (Nat × Nat × Nat × Nat × Nat × Nat × List T × Int × Int)
 | 0,_,_,_,_=>none
 | n+1,n1,l2,i3,i4 =>
   bd (f141 n n1 l2 i3 i4) fun r5 =>
   let x6:=r5.1
   let n7:=r5.2.1
   let l8:=r5.2.2.1
   let i9:=r5.2.2.2.1
   let i10:=r5.2.2.2.2
   bd (f141 n n7 l8 i9 i10) fun r11 =>
   let x12:=r11.1
   let n13:=r11.2.1
   let l14:=r11.2.2.1
   let i15:=r11.2.2.2.1
   let i16:=r11.2.2.2.2
   bd (f141 n n13 l14 i15 i16) fun r17 =>
   let x18:=r17.1
   let n19:=r17.2.1
   let l20:=r17.2.2.1
   let i21:=r17.2.2.2.1
   let i22:=r17.2.2.2.2
   bd (f74 n n19 l20 i21 i22 (15:Int)) fun r23 =>
   let i24:=r23.1
   let n25:=r23.2.1
   let l26:=r23.2.2.1
   let i27:=r23.2.2.2.1
   let i28:=r23.2.2.2.2
   let x29:=(fdiv .f32 (FloatKind.nearest .f32 (IntKind.i64.wrap (i24 - (7:Int)))) 1090519040)
   bd (f74 n n25 l26 i27 i28 (7:Int)) fun r30 =>
   let i31:=r30.1
   let n32:=r30.2.1
   let l33:=r30.2.2.1
   let i34:=r30.2.2.2.1
   let i35:=r30.2.2.2.2
   let x36:=(fdiv .f32 (FloatKind.nearest .f32 (IntKind.i64.wrap (i31 - (3:Int)))) 1090519040)
   bd (f130 n n32 l33 i34 i35 (4:Int)) fun r37 =>
   let b38:=r37.1
   let n39:=r37.2.1
   let l40:=r37.2.2.1
   let i41:=r37.2.2.2.1
   let i42:=r37.2.2.2.2
   br b38 (
    bd (f141 n n39 l40 i41 i42) fun r43 =>
    let x44:=r43.1
    let n45:=r43.2.1
    let l46:=r43.2.2.1
    let i47:=r43.2.2.2.1
    let i48:=r43.2.2.2.2
    bd (f130 n n45 l46 i47 i48 (4:Int)) fun r49 =>
    let b50:=r49.1
    let n51:=r49.2.1
    let l52:=r49.2.2.1
    let i53:=r49.2.2.2.1
    let i54:=r49.2.2.2.2
    br b50 (
     bd (f141 n n51 l52 i53 i54) fun r55 =>
     let x56:=r55.1
     let n57:=r55.2.1
     let l58:=r55.2.2.1
     let i59:=r55.2.2.2.1
     let i60:=r55.2.2.2.2
     some (x6,x12,x18,x44,x56,n57,l58,i59,i60)) (
     some (x6,x12,x18,x44,x36,n51,l52,i53,i54))) (
    bd (f130 n n39 l40 i41 i42 (4:Int)) fun r61 =>
    let b62:=r61.1
    let n63:=r61.2.1
    let l64:=r61.2.2.1
    let i65:=r61.2.2.2.1
    let i66:=r61.2.2.2.2
    br b62 (
     bd (f141 n n63 l64 i65 i66) fun r67 =>
     let x68:=r67.1
     let n69:=r67.2.1
     let l70:=r67.2.2.1
     let i71:=r67.2.2.2.1
     let i72:=r67.2.2.2.2
     some (x6,x12,x18,x29,x68,n69,l70,i71,i72)) (
     some (x6,x12,x18,x29,x36,n63,l64,i65,i66)))
def sg_ffffflii:Sig (Nat × Nat × Nat × Nat × Nat × Nat × List T × Int × Int) where
 pk:=fun v=>[.flt v.1,.flt v.2.1,.flt v.2.2.1,.flt v.2.2.2.1,.flt v.2.2.2.2.1,.lst v.2.2.2.2.2.1 v.2.2.2.2.2.2.1,.int v.2.2.2.2.2.2.2.1,.int v.2.2.2.2.2.2.2.2]
 up:=fun ls=>match ls with
  | [.flt a0,.flt a1,.flt a2,.flt a3,.flt a4,.lst a5 a6,.int a7,.int a8]=>some (a0,a1,a2,a3,a4,a5,a6,a7,a8)
  | _=>none
 ok:=by intro _ _ h;split at h <;>cases h;rfl
def f93.P:List Arg:=[qA9]
def f93.A:RAlt (Nat × Nat × Nat × Nat × Nat × Nat × List T × Int × Int):=.one ⟨[qV0],[some qV1]⟩ sg_ffffflii
def f93.F (n:Nat) (v:Nat × List T × Int × Int):=f93 n v.1 v.2.1 v.2.2.1 v.2.2.2
def f93.O (n:Nat):Orc:=orcOf (E:=E) [f74.w,f130.w,f141.w] [] n
theorem f93.ok:FnS 93 f93.P sg_lii f93.A f93.F:=fnS c93 f93.O
def f93.w:FnW E:=fnW 93 f93.P sg_lii f93.A f93.F f93.ok
def f42:Nat→Nat→List T→Option (Nat × Nat × Nat × Nat × Nat)
 | 0,_,_=>none
 | n+1,n1,l2 =>
   bd (f64 n n1 l2) fun r3 =>
   let n4:=r3.1
   let l5:=r3.2.1
   let i6:=r3.2.2.1
   let i7:=r3.2.2.2
   bd (f93 n n4 l5 i6 i7) fun r8 =>
   let x9:=r8.1
   let x10:=r8.2.1
   let x11:=r8.2.2.1
   let x12:=r8.2.2.2.1
   let x13:=r8.2.2.2.2.1
   some (x9,x10,x11,x12,x13)
def sg_fffff:Sig (Nat × Nat × Nat × Nat × Nat) where
 pk:=fun v=>[.flt v.1,.flt v.2.1,.flt v.2.2.1,.flt v.2.2.2.1,.flt v.2.2.2.2]
 up:=fun ls=>match ls with
  | [.flt a0,.flt a1,.flt a2,.flt a3,.flt a4]=>some (a0,a1,a2,a3,a4)
  | _=>none
 ok:=by intro _ _ h;split at h <;>cases h;rfl
def f42.P:List Arg:=[qA8]
def f42.A:RAlt (Nat × Nat × Nat × Nat × Nat):=.one ⟨[qV0],[none]⟩ sg_fffff
def f42.F (n:Nat) (v:Nat × List T):=f42 n v.1 v.2
def f42.O (n:Nat):Orc:=orcOf (E:=E) [f64.w,f93.w] [] n
theorem f42.ok:FnS 42 f42.P sg_l f42.A f42.F:=fnS c42 f42.O
def f42.w:FnW E:=fnW 42 f42.P sg_l f42.A f42.F f42.ok
def f94:Nat→Nat→List T→Int→Int→Option (Nat × Nat × Nat × Nat × Nat × List T × Int × Int)
 | 0,_,_,_,_=>none
 | n+1,n1,l2,i3,i4 =>
   bd (f130 n n1 l2 i3 i4 (3:Int)) fun r5 =>
   let b6:=r5.1
   let n7:=r5.2.1
   let l8:=r5.2.2.1
   let i9:=r5.2.2.2.1
   let i10:=r5.2.2.2.2
   br b6 (
    some (0,0,0,0,n7,l8,i9,i10)) (
    bd (f86 n n7 l8 i9 i10) fun r11 =>
    let x12:=r11.1
    let n13:=r11.2.1
    let l14:=r11.2.2.1
    let i15:=r11.2.2.2.1
    let i16:=r11.2.2.2.2
    bd (f86 n n13 l14 i15 i16) fun r17 =>
    let x18:=r17.1
    let n19:=r17.2.1
    let l20:=r17.2.2.1
    let i21:=r17.2.2.2.1
    let i22:=r17.2.2.2.2
    bd (f86 n n19 l20 i21 i22) fun r23 =>
    let x24:=r23.1
    let n25:=r23.2.1
    let l26:=r23.2.2.1
    let i27:=r23.2.2.2.1
    let i28:=r23.2.2.2.2
    bd (f86 n n25 l26 i27 i28) fun r29 =>
    let x30:=r29.1
    let n31:=r29.2.1
    let l32:=r29.2.2.1
    let i33:=r29.2.2.2.1
    let i34:=r29.2.2.2.2
    some (x12,x18,x24,x30,n31,l32,i33,i34))
def sg_fffflii:Sig (Nat × Nat × Nat × Nat × Nat × List T × Int × Int) where
 pk:=fun v=>[.flt v.1,.flt v.2.1,.flt v.2.2.1,.flt v.2.2.2.1,.lst v.2.2.2.2.1 v.2.2.2.2.2.1,.int v.2.2.2.2.2.2.1,.int v.2.2.2.2.2.2.2]
 up:=fun ls=>match ls with
  | [.flt a0,.flt a1,.flt a2,.flt a3,.lst a4 a5,.int a6,.int a7]=>some (a0,a1,a2,a3,a4,a5,a6,a7)
  | _=>none
 ok:=by intro _ _ h;split at h <;>cases h;rfl
def f94.P:List Arg:=[qA9]
def f94.A:RAlt (Nat × Nat × Nat × Nat × Nat × List T × Int × Int):=.one ⟨[qV2],[some qV1]⟩ sg_fffflii
def f94.F (n:Nat) (v:Nat × List T × Int × Int):=f94 n v.1 v.2.1 v.2.2.1 v.2.2.2
def f94.O (n:Nat):Orc:=orcOf (E:=E) [f130.w,f86.w] [] n
theorem f94.ok:FnS 94 f94.P sg_lii f94.A f94.F:=fnS c94 f94.O
def f94.w:FnW E:=fnW 94 f94.P sg_lii f94.A f94.F f94.ok
def f43:Nat→Nat→List T→Option (Nat × Nat × Nat × Nat)
 | 0,_,_=>none
 | n+1,n1,l2 =>
   bd (f64 n n1 l2) fun r3 =>
   let n4:=r3.1
   let l5:=r3.2.1
   let i6:=r3.2.2.1
   let i7:=r3.2.2.2
   bd (f94 n n4 l5 i6 i7) fun r8 =>
   let x9:=r8.1
   let x10:=r8.2.1
   let x11:=r8.2.2.1
   let x12:=r8.2.2.2.1
   some (x9,x10,x11,x12)
def sg_ffff:Sig (Nat × Nat × Nat × Nat) where
 pk:=fun v=>[.flt v.1,.flt v.2.1,.flt v.2.2.1,.flt v.2.2.2]
 up:=fun ls=>match ls with
  | [.flt a0,.flt a1,.flt a2,.flt a3]=>some (a0,a1,a2,a3)
  | _=>none
 ok:=by intro _ _ h;split at h <;>cases h;rfl
def f43.P:List Arg:=[qA8]
def f43.A:RAlt (Nat × Nat × Nat × Nat):=.one ⟨[qV2],[none]⟩ sg_ffff
def f43.F (n:Nat) (v:Nat × List T):=f43 n v.1 v.2
def f43.O (n:Nat):Orc:=orcOf (E:=E) [f64.w,f94.w] [] n
theorem f43.ok:FnS 43 f43.P sg_l f43.A f43.F:=fnS c43 f43.O
def f43.w:FnW E:=fnW 43 f43.P sg_l f43.A f43.F f43.ok
def f73.l0 (n:Nat):Nat→Nat→List T→Int→Int→Int→Nat→List T→Bool→Option (Nat × List T × Int × Int × Nat × List T)
 | 0,_,_,_,_,_,_,_,_=>none
 | m+1,n1,l2,i3,i4,i5,n6,l7,b8 =>
   br (decide (i5>(0:Int))) (
    br b8 (
     bd (f86 n n1 l2 i3 i4) fun r9 =>
     let x10:=r9.1
     let n11:=r9.2.1
     let l12:=r9.2.2.1
     let i13:=r9.2.2.2.1
     let i14:=r9.2.2.2.2
     gd (Nat.ble (n6+1) 2147483648) (
     let n15:=(n6+1)
     let l16:=(l7++(setN (reps 1 [(T.flt .f32 0)]) 0 [(T.flt .f32 x10)]))
     f73.l0 n m n11 l12 i13 i14 (IntKind.i64.wrap (i5 - (1:Int))) n15 l16 b8)) (
     bd (f65 n n1 l2 i3 i4) fun r17 =>
     let x18:=r17.1
     let n19:=r17.2.1
     let l20:=r17.2.2.1
     let i21:=r17.2.2.2.1
     let i22:=r17.2.2.2.2
     gd (Nat.ble (n6+1) 2147483648) (
     let n23:=(n6+1)
     let l24:=(l7++(setN (reps 1 [(T.flt .f32 0)]) 0 [(T.flt .f32 x18)]))
     f73.l0 n m n19 l20 i21 i22 (IntKind.i64.wrap (i5 - (1:Int))) n23 l24 b8))) (
    some (n1,l2,i3,i4,n6,l7))
def f73:Nat→Nat→List T→Int→Int→Int→Option (Nat × List T × Nat × List T × Int × Int)
 | 0,_,_,_,_,_=>none
 | n+1,n1,l2,i3,i4,i5 =>
   bd (f130 n n1 l2 i3 i4 (4:Int)) fun r6 =>
   let b7:=r6.1
   let n8:=r6.2.1
   let l9:=r6.2.2.1
   let i10:=r6.2.2.2.1
   let i11:=r6.2.2.2.2
   bd (f73.l0 n n n8 l9 i10 i11 i5 0 (reps 0 [(T.flt .f32 0)]) b7) fun r12 =>
   let n13:=r12.1
   let l14:=r12.2.1
   let i15:=r12.2.2.1
   let i16:=r12.2.2.2.1
   let n17:=r12.2.2.2.2.1
   let l18:=r12.2.2.2.2.2
   some (n17,l18,n13,l14,i15,i16)
def sg_llii:Sig (Nat × List T × Nat × List T × Int × Int) where
 pk:=fun v=>[.lst v.1 v.2.1,.lst v.2.2.1 v.2.2.2.1,.int v.2.2.2.2.1,.int v.2.2.2.2.2]
 up:=fun ls=>match ls with
  | [.lst a0 a1,.lst a2 a3,.int a4,.int a5]=>some (a0,a1,a2,a3,a4,a5)
  | _=>none
 ok:=by intro _ _ h;split at h <;>cases h;rfl
def sg_liiilb:Sig (Nat × List T × Int × Int × Int × Nat × List T × Bool) where
 pk:=fun v=>[.lst v.1 v.2.1,.int v.2.2.1,.int v.2.2.2.1,.int v.2.2.2.2.1,.lst v.2.2.2.2.2.1 v.2.2.2.2.2.2.1,.bool v.2.2.2.2.2.2.2]
 up:=fun ls=>match ls with
  | [.lst a0 a1,.int a2,.int a3,.int a4,.lst a5 a6,.bool a7]=>some (a0,a1,a2,a3,a4,a5,a6,a7)
  | _=>none
 ok:=by intro _ _ h;split at h <;>cases h;rfl
def f73.l0.P:AS:=⟨[(0,.box [.sl .shr [.leaf],.leaf,.leaf] [.lst 0 [],.int .i64 0,.int .u64 0] [] 0),(1,qS17),(5,qS15),(6,qS18)],0⟩
def f73.l0.A:Alt (Nat × List T × Int × Int × Nat × List T):=.one (.exit 0) ⟨[(0,.box [.sl .shr [.leaf],.leaf,.leaf] [.lst 0 [],.int .i64 0,.int .u64 0] [] 0),(5,qS15)],0⟩ sg_liil
def f73.l0.F (n m:Nat) (v:Nat × List T × Int × Int × Int × Nat × List T × Bool):=f73.l0 n m v.1 v.2.1 v.2.2.1 v.2.2.2.1 v.2.2.2.2.1 v.2.2.2.2.2.1 v.2.2.2.2.2.2.1 v.2.2.2.2.2.2.2
def f73.l0.W (n:Nat):LpW:=.of 48 f73.l0.P sg_liiilb f73.l0.A (f73.l0.F n n)
def f73.P:List Arg:=[qA9,qA10]
def f73.A:RAlt (Nat × List T × Nat × List T × Int × Int):=.one ⟨[qV4],[some qV1,none]⟩ sg_llii
def f73.F (n:Nat) (v:Nat × List T × Int × Int × Int):=f73 n v.1 v.2.1 v.2.2.1 v.2.2.2.1 v.2.2.2.2
def f73.O (n:Nat):Orc:=orcOf (E:=E) [f130.w,f65.w,f86.w] [f73.l0.W n] n
theorem f73.l0.ok:∀ n,LpS 73 c73 0 n (f73.O n):=lpS f73.l0.P sg_liiilb f73.l0.A f73.l0.F
theorem f73.ok:FnS 73 f73.P sg_liii f73.A f73.F:=fnS c73 f73.O [loopAt c73 0] (fun n=>(.cons (f73.l0.ok n) .nil))
def f73.w:FnW E:=fnW 73 f73.P sg_liii f73.A f73.F f73.ok
def f21:Nat→Nat→List T→Int→Option (Nat × List T)
 | 0,_,_,_=>none
 | n+1,n1,l2,i3 =>
   bd (f64 n n1 l2) fun r4 =>
   let n5:=r4.1
   let l6:=r4.2.1
   let i7:=r4.2.2.1
   let i8:=r4.2.2.2
   bd (f74 n n5 l6 i7 i8 (IntKind.i64.wrap (i3+(1:Int)))) fun r9 =>
   let i10:=r9.1
   let n11:=r9.2.1
   let l12:=r9.2.2.1
   let i13:=r9.2.2.2.1
   let i14:=r9.2.2.2.2
   bd (f73 n n11 l12 i13 i14 i10) fun r15 =>
   let n16:=r15.1
   let l17:=r15.2.1
   some (n16,l17)
def sg_li:Sig (Nat × List T × Int) where
 pk:=fun v=>[.lst v.1 v.2.1,.int v.2.2]
 up:=fun ls=>match ls with
  | [.lst a0 a1,.int a2]=>some (a0,a1,a2)
  | _=>none
 ok:=by intro _ _ h;split at h <;>cases h;rfl
def f21.P:List Arg:=[qA8,qA10]
def f21.A:RAlt (Nat × List T):=.one ⟨[qV4],[none,none]⟩ sg_l
def f21.F (n:Nat) (v:Nat × List T × Int):=f21 n v.1 v.2.1 v.2.2
def f21.O (n:Nat):Orc:=orcOf (E:=E) [f64.w,f74.w,f73.w] [] n
theorem f21.ok:FnS 21 f21.P sg_li f21.A f21.F:=fnS c21 f21.O
def f21.w:FnW E:=fnW 21 f21.P sg_li f21.A f21.F f21.ok
def f14:Nat→Nat→List T→Int→Int→Option (Int)
 | 0,_,_,_,_=>none
 | n+1,n1,l2,i3,i4 =>
   br (decide (i4≤(1:Int))) (
    some (0:Int)) (
    br (decide (i3≥(n1:Int))) (
     some (0:Int)) (
     gd ((decide ((0≤i3)∧(i3<(n1:Int))))&&(okAt [(CK.int .u8)] l2 (Int.toNat i3))) (
     gd (!(decide (i4=(0:Int)))) (
     some (Int.tmod (IntKind.i64.wrap (iAt l2 (Int.toNat i3))) i4)))))
def f14.P:List Arg:=[qA8,qA10,qA10]
def f14.A:RAlt (Int):=.one ⟨[qV6],[none,none,none]⟩ sg_i
def f14.F (n:Nat) (v:Nat × List T × Int × Int):=f14 n v.1 v.2.1 v.2.2.1 v.2.2.2
def f14.O (n:Nat):Orc:=orcOf (E:=E) [] [] n
theorem f14.ok:FnS 14 f14.P sg_lii f14.A f14.F:=fnS c14 f14.O
def f14.w:FnW E:=fnW 14 f14.P sg_lii f14.A f14.F f14.ok
def f67:Nat→Int→Int→Int→Option (Bool)
 | 0,_,_,_=>none
 | n+1,i1,i2,i3 =>
   br (decide (i2≤i1)) (
    some (decide (i1≤i3))) (
    some false)
def sg_iii:Sig (Int × Int × Int) where
 pk:=fun v=>[.int v.1,.int v.2.1,.int v.2.2]
 up:=fun ls=>match ls with
  | [.int a0,.int a1,.int a2]=>some (a0,a1,a2)
  | _=>none
 ok:=by intro _ _ h;split at h <;>cases h;rfl
def f67.P:List Arg:=[qA10,qA10,qA10]
def f67.A:RAlt (Bool):=.one ⟨[qV5],[none,none,none]⟩ sg_b
def f67.F (n:Nat) (v:Int × Int × Int):=f67 n v.1 v.2.1 v.2.2
def f67.O (n:Nat):Orc:=orcOf (E:=E) [] [] n
theorem f67.ok:FnS 67 f67.P sg_iii f67.A f67.F:=fnS c67 f67.O
def f67.w:FnW E:=fnW 67 f67.P sg_iii f67.A f67.F f67.ok
def f95:Nat→Int→Option (Bool)
 | 0,_=>none
 | n+1,i1 =>
   bd (f67 n i1 (0:Int) (2:Int)) fun r2 =>
   let b3:=r2
   some b3
def f95.P:List Arg:=[qA10]
def f95.A:RAlt (Bool):=.one ⟨[qV5],[none]⟩ sg_b
def f95.F (n:Nat) (v:Int):=f95 n v
def f95.O (n:Nat):Orc:=orcOf (E:=E) [f67.w] [] n
theorem f95.ok:FnS 95 f95.P sg_i f95.A f95.F:=fnS c95 f95.O
def f95.w:FnW E:=fnW 95 f95.P sg_i f95.A f95.F f95.ok
def f66:Nat→Nat→List T→Option (Bool)
 | 0,_,_=>none
 | n+1,n1,l2 =>
   some (decide ((n1:Int)≤(256:Int)))
def f66.P:List Arg:=[qA8]
def f66.A:RAlt (Bool):=.one ⟨[qV5],[none]⟩ sg_b
def f66.F (n:Nat) (v:Nat × List T):=f66 n v.1 v.2
def f66.O (n:Nat):Orc:=orcOf (E:=E) [] [] n
theorem f66.ok:FnS 66 f66.P sg_l f66.A f66.F:=fnS c66 f66.O
def f66.w:FnW E:=fnW 66 f66.P sg_l f66.A f66.F f66.ok
def f84:Nat→Nat→List T→Option (Nat × List T)
 | 0,_,_=>none
 | n+1,n1,l2 =>
   gd (Nat.ble (0+n1) 2147483648) (
   some ((0+n1),((reps 0 [(T.flt .f32 0)])++l2)))
def f84.P:List Arg:=[qA8]
def f84.A:RAlt (Nat × List T):=.one ⟨[qV4],[none]⟩ sg_l
def f84.F (n:Nat) (v:Nat × List T):=f84 n v.1 v.2
def f84.O (n:Nat):Orc:=orcOf (E:=E) [] [] n
theorem f84.ok:FnS 84 f84.P sg_l f84.A f84.F:=fnS c84 f84.O
def f84.w:FnW E:=fnW 84 f84.P sg_l f84.A f84.F f84.ok
def f189:Nat→Nat→Option (Bool)
 | 0,_=>none
 | n+1,x1 =>
   br (fne .f32 x1 0) (
    br (flt .f32 x1 8388608) (
     some (fgt .f32 x1 2155872256)) (
     some false)) (
    some false)
def f189.P:List Arg:=[qA11]
def f189.A:RAlt (Bool):=.one ⟨[qV5],[none]⟩ sg_b
def f189.F (n:Nat) (v:Nat):=f189 n v
def f189.O (n:Nat):Orc:=orcOf (E:=E) [] [] n
theorem f189.ok:FnS 189 f189.P sg_f f189.A f189.F:=fnS c189 f189.O
def f189.w:FnW E:=fnW 189 f189.P sg_f f189.A f189.F f189.ok
def f169:Nat→Nat→Option (Nat)
 | 0,_=>none
 | n+1,x1 =>
   bd (f189 n x1) fun r2 =>
   let b3:=r2
   br (!b3) (
    some x1) (
    bd ((fltToFlt .f32 x1 .f64)) fun y4 =>
    bd (xCopysign n 0 y4) fun r5 =>
    let x6:=r5
    bd ((fltToFlt .f64 x6 .f32)) fun y7 =>
    some y7)
def f169.P:List Arg:=[qA11]
def f169.A:RAlt (Nat):=.one ⟨[qV7],[none]⟩ sg_f
def f169.F (n:Nat) (v:Nat):=f169 n v
def f169.O (n:Nat):Orc:=orcOf (E:=E) [x190.w,f189.w] [] n
theorem f169.ok:FnS 169 f169.P sg_f f169.A f169.F:=fnS c169 f169.O
def f169.w:FnW E:=fnW 169 f169.P sg_f f169.A f169.F f169.ok
def f176:Nat→Nat→Bool→Option (Nat)
 | 0,_,_=>none
 | n+1,x1,b2 =>
   br b2 (
    bd (f169 n x1) fun r3 =>
    let x4:=r3
    some x4) (
    some x1)
def sg_fb:Sig (Nat × Bool) where
 pk:=fun v=>[.flt v.1,.bool v.2]
 up:=fun ls=>match ls with
  | [.flt a0,.bool a1]=>some (a0,a1)
  | _=>none
 ok:=by intro _ _ h;split at h <;>cases h;rfl
def f176.P:List Arg:=[qA11,qA12]
def f176.A:RAlt (Nat):=.one ⟨[qV7],[none,none]⟩ sg_f
def f176.F (n:Nat) (v:Nat × Bool):=f176 n v.1 v.2
def f176.O (n:Nat):Orc:=orcOf (E:=E) [f169.w] [] n
theorem f176.ok:FnS 176 f176.P sg_fb f176.A f176.F:=fnS c176 f176.O
def f176.w:FnW E:=fnW 176 f176.P sg_fb f176.A f176.F f176.ok
def f142:Nat→Nat→Nat→Nat→Nat→Nat→Int→Bool→Nat→Nat→Nat→Nat→Nat→Option (Nat × Nat × Nat × Nat × Nat)
 | 0,_,_,_,_,_,_,_,_,_,_,_,_=>none
 | n+1,x1,x2,x3,x4,x5,i6,b7,x8,x9,x10,x11,x12 =>
   br (i6==(0:Int)) (
    let x13:=(fsub .f32 (fsub .f32 (fadd .f32 (fadd .f32 (fmul .f32 x1 x12) (fmul .f32 x2 x8)) (fmul .f32 x3 x9)) (fmul .f32 x4 x10)) (fmul .f32 x5 x11))
    bd (f176 n x13 b7) fun r14 =>
    let x15:=r14
    bd (f176 n x12 b7) fun r16 =>
    let x17:=r16
    bd (f176 n x8 b7) fun r18 =>
    let x19:=r18
    bd (f176 n x15 b7) fun r20 =>
    let x21:=r20
    bd (f176 n x10 b7) fun r22 =>
    let x23:=r22
    some (x15,x17,x19,x21,x23)) (
    br (i6==(1:Int)) (
     bd (f176 n (fadd .f32 (fmul .f32 x1 x12) x8) b7) fun r24 =>
     let x25:=r24
     let x26:=(fadd .f32 (fsub .f32 (fmul .f32 x2 x12) (fmul .f32 x4 x25)) x9)
     let x27:=(fsub .f32 (fmul .f32 x3 x12) (fmul .f32 x5 x25))
     bd (f176 n x26 b7) fun r28 =>
     let x29:=r28
     bd (f176 n x27 b7) fun r30 =>
     let x31:=r30
     bd (f176 n 0 b7) fun r32 =>
     let x33:=r32
     bd (f176 n 0 b7) fun r34 =>
     let x35:=r34
     some (x25,x29,x31,x33,x35)) (
     bd (f176 n (fsub .f32 (fsub .f32 x12 (fmul .f32 x4 x8)) (fmul .f32 x5 x9)) b7) fun r36 =>
     let x37:=r36
     bd (f176 n (fadd .f32 (fadd .f32 (fmul .f32 x1 x37) (fmul .f32 x2 x8)) (fmul .f32 x3 x9)) b7) fun r38 =>
     let x39:=r38
     bd (f176 n x37 b7) fun r40 =>
     let x41:=r40
     bd (f176 n x8 b7) fun r42 =>
     let x43:=r42
     bd (f176 n 0 b7) fun r44 =>
     let x45:=r44
     bd (f176 n 0 b7) fun r46 =>
     let x47:=r46
     some (x39,x41,x43,x45,x47)))
def sg_fffffibfffff:Sig (Nat × Nat × Nat × Nat × Nat × Int × Bool × Nat × Nat × Nat × Nat × Nat) where
 pk:=fun v=>[.flt v.1,.flt v.2.1,.flt v.2.2.1,.flt v.2.2.2.1,.flt v.2.2.2.2.1,.int v.2.2.2.2.2.1,.bool v.2.2.2.2.2.2.1,.flt v.2.2.2.2.2.2.2.1,.flt v.2.2.2.2.2.2.2.2.1,.flt v.2.2.2.2.2.2.2.2.2.1,.flt v.2.2.2.2.2.2.2.2.2.2.1,.flt v.2.2.2.2.2.2.2.2.2.2.2]
 up:=fun ls=>match ls with
  | [.flt a0,.flt a1,.flt a2,.flt a3,.flt a4,.int a5,.bool a6,.flt a7,.flt a8,.flt a9,.flt a10,.flt a11]=>some (a0,a1,a2,a3,a4,a5,a6,a7,a8,a9,a10,a11)
  | _=>none
 ok:=by intro _ _ h;split at h <;>cases h;rfl
def f142.P:List Arg:=[qA13,qA10,qA12,qA14,qA11]
def f142.A:RAlt (Nat × Nat × Nat × Nat × Nat):=.one ⟨[qV7,qV2],[none,none,none,none,none]⟩ sg_fffff
def f142.F (n:Nat) (v:Nat × Nat × Nat × Nat × Nat × Int × Bool × Nat × Nat × Nat × Nat × Nat):=f142 n v.1 v.2.1 v.2.2.1 v.2.2.2.1 v.2.2.2.2.1 v.2.2.2.2.2.1 v.2.2.2.2.2.2.1 v.2.2.2.2.2.2.2.1 v.2.2.2.2.2.2.2.2.1 v.2.2.2.2.2.2.2.2.2.1 v.2.2.2.2.2.2.2.2.2.2.1 v.2.2.2.2.2.2.2.2.2.2.2
def f142.O (n:Nat):Orc:=orcOf (E:=E) [f176.w] [] n
theorem f142.ok:FnS 142 f142.P sg_fffffibfffff f142.A f142.F:=fnS c142 f142.O
def f142.w:FnW E:=fnW 142 f142.P sg_fffffibfffff f142.A f142.F f142.ok
def f96.l0 (n:Nat):Nat→Int→Bool→Nat→List T→Nat→Nat→Nat→Nat→Nat→Nat→Nat→Nat→Nat→Nat→Nat→Nat→Nat→Nat→List T→Nat→List T→Int→Int→Option (Nat × Nat × Nat × Nat × Nat × Nat × Nat × Nat × Nat × List T)
 | 0,_,_,_,_,_,_,_,_,_,_,_,_,_,_,_,_,_,_,_,_,_,_,_=>none
 | m+1,i1,b2,n3,l4,x5,x6,x7,x8,x9,x10,x11,x12,x13,x14,x15,x16,x17,n18,l19,n20,l21,i22,i23 =>
   br (decide (i23<i22)) (
    gd ((decide ((0≤i23)∧(i23<(n20:Int))))&&(okAt [(CK.flt .f32)] l21 (Int.toNat i23))) (
    let x24:=(fAt l21 (Int.toNat i23))
    bd (f142 n x5 x6 x7 x8 x9 i1 b2 x10 x11 x12 x13 x24) fun r25 =>
    let x26:=r25.1
    let x27:=r25.2.1
    let x28:=r25.2.2.1
    let x29:=r25.2.2.2.1
    let x30:=r25.2.2.2.2
    gd (Nat.ble (n18+1) 2147483648) (
    let n31:=(n18+1)
    let l32:=(l19++(setN (reps 1 [(T.flt .f32 0)]) 0 [(T.flt .f32 x26)]))
    f96.l0 n m i1 b2 n3 l4 x5 x6 x7 x8 x9 x27 x28 x29 x30 x14 x15 x16 x17 n31 l32 n20 l21 i22 (IntKind.i64.wrap (i23+(1:Int)))))) (
    some (x10,x11,x12,x13,x14,x15,x16,x17,n18,l19))
termination_by structural x=>x
def f96:Nat→Nat→Nat→Nat→Nat→Nat→Int→Bool→Nat→Nat→Nat→Nat→Nat→List T→Option (Nat × List T × Nat × Nat × Nat × Nat)
 | 0,_,_,_,_,_,_,_,_,_,_,_,_,_=>none
 | n+1,x1,x2,x3,x4,x5,i6,b7,x8,x9,x10,x11,n12,l13 =>
   bd (f96.l0 n n i6 b7 n12 l13 x1 x2 x3 x4 x5 x8 x9 x10 x11 0 0 0 0 0 [] n12 l13 (n12:Int) (0:Int)) fun r14 =>
   let x15:=r14.1
   let x16:=r14.2.1
   let x17:=r14.2.2.1
   let x18:=r14.2.2.2.1
   let n23:=r14.2.2.2.2.2.2.2.2.1
   let l24:=r14.2.2.2.2.2.2.2.2.2
   some (n23,l24,x15,x16,x17,x18)
def sg_fffffibffffl:Sig (Nat × Nat × Nat × Nat × Nat × Int × Bool × Nat × Nat × Nat × Nat × Nat × List T) where
 pk:=fun v=>[.flt v.1,.flt v.2.1,.flt v.2.2.1,.flt v.2.2.2.1,.flt v.2.2.2.2.1,.int v.2.2.2.2.2.1,.bool v.2.2.2.2.2.2.1,.flt v.2.2.2.2.2.2.2.1,.flt v.2.2.2.2.2.2.2.2.1,.flt v.2.2.2.2.2.2.2.2.2.1,.flt v.2.2.2.2.2.2.2.2.2.2.1,.lst v.2.2.2.2.2.2.2.2.2.2.2.1 v.2.2.2.2.2.2.2.2.2.2.2.2]
 up:=fun ls=>match ls with
  | [.flt a0,.flt a1,.flt a2,.flt a3,.flt a4,.int a5,.bool a6,.flt a7,.flt a8,.flt a9,.flt a10,.lst a11 a12]=>some (a0,a1,a2,a3,a4,a5,a6,a7,a8,a9,a10,a11,a12)
  | _=>none
 ok:=by intro _ _ h;split at h <;>cases h;rfl
def sg_lffff:Sig (Nat × List T × Nat × Nat × Nat × Nat) where
 pk:=fun v=>[.lst v.1 v.2.1,.flt v.2.2.1,.flt v.2.2.2.1,.flt v.2.2.2.2.1,.flt v.2.2.2.2.2]
 up:=fun ls=>match ls with
  | [.lst a0 a1,.flt a2,.flt a3,.flt a4,.flt a5]=>some (a0,a1,a2,a3,a4,a5)
  | _=>none
 ok:=by intro _ _ h;split at h <;>cases h;rfl
def sg_iblfffffffffffffllii:Sig (Int × Bool × Nat × List T × Nat × Nat × Nat × Nat × Nat × Nat × Nat × Nat × Nat × Nat × Nat × Nat × Nat × Nat × List T × Nat × List T × Int × Int) where
 pk:=fun v=>[.int v.1,.bool v.2.1,.lst v.2.2.1 v.2.2.2.1,.flt v.2.2.2.2.1,.flt v.2.2.2.2.2.1,.flt v.2.2.2.2.2.2.1,.flt v.2.2.2.2.2.2.2.1,.flt v.2.2.2.2.2.2.2.2.1,.flt v.2.2.2.2.2.2.2.2.2.1,.flt v.2.2.2.2.2.2.2.2.2.2.1,.flt v.2.2.2.2.2.2.2.2.2.2.2.1,.flt v.2.2.2.2.2.2.2.2.2.2.2.2.1,.flt v.2.2.2.2.2.2.2.2.2.2.2.2.2.1,.flt v.2.2.2.2.2.2.2.2.2.2.2.2.2.2.1,.flt v.2.2.2.2.2.2.2.2.2.2.2.2.2.2.2.1,.flt v.2.2.2.2.2.2.2.2.2.2.2.2.2.2.2.2.1,.lst v.2.2.2.2.2.2.2.2.2.2.2.2.2.2.2.2.2.1 v.2.2.2.2.2.2.2.2.2.2.2.2.2.2.2.2.2.2.1,.lst v.2.2.2.2.2.2.2.2.2.2.2.2.2.2.2.2.2.2.2.1 v.2.2.2.2.2.2.2.2.2.2.2.2.2.2.2.2.2.2.2.2.1,.int v.2.2.2.2.2.2.2.2.2.2.2.2.2.2.2.2.2.2.2.2.2.1,.int v.2.2.2.2.2.2.2.2.2.2.2.2.2.2.2.2.2.2.2.2.2.2]
 up:=fun ls=>match ls with
  | [.int a0,.bool a1,.lst a2 a3,.flt a4,.flt a5,.flt a6,.flt a7,.flt a8,.flt a9,.flt a10,.flt a11,.flt a12,.flt a13,.flt a14,.flt a15,.flt a16,.lst a17 a18,.lst a19 a20,.int a21,.int a22]=>some (a0,a1,a2,a3,a4,a5,a6,a7,a8,a9,a10,a11,a12,a13,a14,a15,a16,a17,a18,a19,a20,a21,a22)
  | _=>none
 ok:=by intro _ _ h;split at h <;>cases h;rfl
def sg_ffffffffl:Sig (Nat × Nat × Nat × Nat × Nat × Nat × Nat × Nat × Nat × List T) where
 pk:=fun v=>[.flt v.1,.flt v.2.1,.flt v.2.2.1,.flt v.2.2.2.1,.flt v.2.2.2.2.1,.flt v.2.2.2.2.2.1,.flt v.2.2.2.2.2.2.1,.flt v.2.2.2.2.2.2.2.1,.lst v.2.2.2.2.2.2.2.2.1 v.2.2.2.2.2.2.2.2.2]
 up:=fun ls=>match ls with
  | [.flt a0,.flt a1,.flt a2,.flt a3,.flt a4,.flt a5,.flt a6,.flt a7,.lst a8 a9]=>some (a0,a1,a2,a3,a4,a5,a6,a7,a8,a9)
  | _=>none
 ok:=by intro _ _ h;split at h <;>cases h;rfl
def f96.l0.P:AS:=⟨[(1,qS17),(2,qS18),(4,qS16),(5,.box [.leaf,.leaf,.leaf,.leaf,.leaf] [.flt .f32 0,.flt .f32 0,.flt .f32 0,.flt .f32 0,.flt .f32 0] [] 0),(8,.box [.leaf,.leaf,.leaf,.leaf] [.flt .f32 0,.flt .f32 0,.flt .f32 0,.flt .f32 0] [] 0),(11,.box [.leaf,.leaf,.leaf,.leaf] [.flt .f32 0,.flt .f32 0,.flt .f32 0,.flt .f32 0] [] 0),(12,qS15),(17,qS16),(18,qS17),(19,qS17)],0⟩
def f96.l0.A:Alt (Nat × Nat × Nat × Nat × Nat × Nat × Nat × Nat × Nat × List T):=.one (.exit 0) ⟨[(8,.box [.leaf,.leaf,.leaf,.leaf] [.flt .f32 0,.flt .f32 0,.flt .f32 0,.flt .f32 0] [] 0),(11,.box [.leaf,.leaf,.leaf,.leaf] [.flt .f32 0,.flt .f32 0,.flt .f32 0,.flt .f32 0] [] 0),(12,qS15)],0⟩ sg_ffffffffl
def f96.l0.F (n m:Nat) (v:Int × Bool × Nat × List T × Nat × Nat × Nat × Nat × Nat × Nat × Nat × Nat × Nat × Nat × Nat × Nat × Nat × Nat × List T × Nat × List T × Int × Int):=f96.l0 n m v.1 v.2.1 v.2.2.1 v.2.2.2.1 v.2.2.2.2.1 v.2.2.2.2.2.1 v.2.2.2.2.2.2.1 v.2.2.2.2.2.2.2.1 v.2.2.2.2.2.2.2.2.1 v.2.2.2.2.2.2.2.2.2.1 v.2.2.2.2.2.2.2.2.2.2.1 v.2.2.2.2.2.2.2.2.2.2.2.1 v.2.2.2.2.2.2.2.2.2.2.2.2.1 v.2.2.2.2.2.2.2.2.2.2.2.2.2.1 v.2.2.2.2.2.2.2.2.2.2.2.2.2.2.1 v.2.2.2.2.2.2.2.2.2.2.2.2.2.2.2.1 v.2.2.2.2.2.2.2.2.2.2.2.2.2.2.2.2.1 v.2.2.2.2.2.2.2.2.2.2.2.2.2.2.2.2.2.1 v.2.2.2.2.2.2.2.2.2.2.2.2.2.2.2.2.2.2.1 v.2.2.2.2.2.2.2.2.2.2.2.2.2.2.2.2.2.2.2.1 v.2.2.2.2.2.2.2.2.2.2.2.2.2.2.2.2.2.2.2.2.1 v.2.2.2.2.2.2.2.2.2.2.2.2.2.2.2.2.2.2.2.2.2.1 v.2.2.2.2.2.2.2.2.2.2.2.2.2.2.2.2.2.2.2.2.2.2
def f96.l0.W (n:Nat):LpW:=.of 48 f96.l0.P sg_iblfffffffffffffllii f96.l0.A (f96.l0.F n n)
def f96.P:List Arg:=[qA13,qA10,qA12,qA14,qA8]
def f96.A:RAlt (Nat × List T × Nat × Nat × Nat × Nat):=.one ⟨[qV4,qV2],[none,none,none,none,none]⟩ sg_lffff
def f96.F (n:Nat) (v:Nat × Nat × Nat × Nat × Nat × Int × Bool × Nat × Nat × Nat × Nat × Nat × List T):=f96 n v.1 v.2.1 v.2.2.1 v.2.2.2.1 v.2.2.2.2.1 v.2.2.2.2.2.1 v.2.2.2.2.2.2.1 v.2.2.2.2.2.2.2.1 v.2.2.2.2.2.2.2.2.1 v.2.2.2.2.2.2.2.2.2.1 v.2.2.2.2.2.2.2.2.2.2.1 v.2.2.2.2.2.2.2.2.2.2.2.1 v.2.2.2.2.2.2.2.2.2.2.2.2
def f96.O (n:Nat):Orc:=orcOf (E:=E) [f142.w] [f96.l0.W n] n
theorem f96.l0.ok:∀ n,LpS 96 c96 0 n (f96.O n):=lpS f96.l0.P sg_iblfffffffffffffllii f96.l0.A f96.l0.F
theorem f96.ok:FnS 96 f96.P sg_fffffibffffl f96.A f96.F:=fnS c96 f96.O [loopAt c96 0] (fun n=>(.cons (f96.l0.ok n) .nil))
def f96.w:FnW E:=fnW 96 f96.P sg_fffffibffffl f96.A f96.F f96.ok
def f44.l0 (n:Nat):Nat→Nat→List T→Int→Bool→Nat→List T→Nat→List T→Nat→List T→Nat→List T→Int→Int→Option (Nat × List T × Nat × List T)
 | 0,_,_,_,_,_,_,_,_,_,_,_,_,_,_=>none
 | m+1,n1,l2,i3,b4,n5,l6,n7,l8,n9,l10,n11,l12,i13,i14 =>
   br (decide (i14<i13)) (
    gd ((decide ((0≤i14)∧(i14<(n11:Int))))&&(okAt [(CK.flt .f32),(CK.flt .f32),(CK.flt .f32),(CK.flt .f32),(CK.flt .f32)] l12 (((Int.toNat i14) * 5)+0))) (
    let x15:=(fAt l12 (((Int.toNat i14) * 5)+0))
    let x16:=(fAt l12 ((((Int.toNat i14) * 5)+0)+1))
    let x17:=(fAt l12 (((((Int.toNat i14) * 5)+0)+1)+1))
    let x18:=(fAt l12 ((((((Int.toNat i14) * 5)+0)+1)+1)+1))
    let x19:=(fAt l12 (((((((Int.toNat i14) * 5)+0)+1)+1)+1)+1))
    gd ((decide ((0≤i14)∧(i14<(n5:Int))))&&(okAt [(CK.flt .f32),(CK.flt .f32),(CK.flt .f32),(CK.flt .f32)] l6 (((Int.toNat i14) * 4)+0))) (
    bd (f96 n x15 x16 x17 x18 x19 i3 b4 (fAt l6 (((Int.toNat i14) * 4)+0)) (fAt l6 ((((Int.toNat i14) * 4)+0)+1)) (fAt l6 (((((Int.toNat i14) * 4)+0)+1)+1)) (fAt l6 ((((((Int.toNat i14) * 4)+0)+1)+1)+1)) n7 l8) fun r20 =>
    let n21:=r20.1
    let l22:=r20.2.1
    let x23:=r20.2.2.1
    let x24:=r20.2.2.2.1
    let x25:=r20.2.2.2.2.1
    let x26:=r20.2.2.2.2.2
    gd (Nat.ble (n9+1) 2147483648) (
    let n27:=(n9+1)
    let l28:=(l10++(setN (reps 1 [(T.flt .f32 0),(T.flt .f32 0),(T.flt .f32 0),(T.flt .f32 0)]) 0 [(T.flt .f32 x23),(T.flt .f32 x24),(T.flt .f32 x25),(T.flt .f32 x26)]))
    f44.l0 n m n1 l2 i3 b4 n5 l6 n21 l22 n27 l28 n11 l12 i13 (IntKind.i64.wrap (i14+(1:Int))))))) (
    some (n7,l8,n9,l10))
termination_by structural x=>x
def f44:Nat→Nat→List T→Int→Bool→Nat→List T→Nat→List T→Option (Nat × List T × Nat × List T × Bool)
 | 0,_,_,_,_,_,_,_,_=>none
 | n+1,n1,l2,i3,b4,n5,l6,n7,l8 =>
   bd (f95 n i3) fun r9 =>
   let b10:=r9
   br (!b10) (
    some (0,[],0,[],false)) (
    bd (f66 n n7 l8) fun r11 =>
    let b12:=r11
    br (!b12) (
     some (0,[],0,[],false)) (
     br (decide ((n1:Int)>(6:Int))) (
      some (0,[],0,[],false)) (
      br ((n5:Int) != (n1:Int)) (
       some (0,[],0,[],false)) (
       bd (f84 n n7 l8) fun r13 =>
       let n14:=r13.1
       let l15:=r13.2
       bd (f44.l0 n n n1 l2 i3 b4 n5 l6 n14 l15 0 [] n1 l2 (n1:Int) (0:Int)) fun r16 =>
       let n17:=r16.1
       let l18:=r16.2.1
       let n19:=r16.2.2.1
       let l20:=r16.2.2.2
       some (n17,l18,n19,l20,true)))))
def sg_libll:Sig (Nat × List T × Int × Bool × Nat × List T × Nat × List T) where
 pk:=fun v=>[.lst v.1 v.2.1,.int v.2.2.1,.bool v.2.2.2.1,.lst v.2.2.2.2.1 v.2.2.2.2.2.1,.lst v.2.2.2.2.2.2.1 v.2.2.2.2.2.2.2]
 up:=fun ls=>match ls with
  | [.lst a0 a1,.int a2,.bool a3,.lst a4 a5,.lst a6 a7]=>some (a0,a1,a2,a3,a4,a5,a6,a7)
  | _=>none
 ok:=by intro _ _ h;split at h <;>cases h;rfl
def sg_llb:Sig (Nat × List T × Nat × List T × Bool) where
 pk:=fun v=>[.lst v.1 v.2.1,.lst v.2.2.1 v.2.2.2.1,.bool v.2.2.2.2]
 up:=fun ls=>match ls with
  | [.lst a0 a1,.lst a2 a3,.bool a4]=>some (a0,a1,a2,a3,a4)
  | _=>none
 ok:=by intro _ _ h;split at h <;>cases h;rfl
def sg_libllllii:Sig (Nat × List T × Int × Bool × Nat × List T × Nat × List T × Nat × List T × Nat × List T × Int × Int) where
 pk:=fun v=>[.lst v.1 v.2.1,.int v.2.2.1,.bool v.2.2.2.1,.lst v.2.2.2.2.1 v.2.2.2.2.2.1,.lst v.2.2.2.2.2.2.1 v.2.2.2.2.2.2.2.1,.lst v.2.2.2.2.2.2.2.2.1 v.2.2.2.2.2.2.2.2.2.1,.lst v.2.2.2.2.2.2.2.2.2.2.1 v.2.2.2.2.2.2.2.2.2.2.2.1,.int v.2.2.2.2.2.2.2.2.2.2.2.2.1,.int v.2.2.2.2.2.2.2.2.2.2.2.2.2]
 up:=fun ls=>match ls with
  | [.lst a0 a1,.int a2,.bool a3,.lst a4 a5,.lst a6 a7,.lst a8 a9,.lst a10 a11,.int a12,.int a13]=>some (a0,a1,a2,a3,a4,a5,a6,a7,a8,a9,a10,a11,a12,a13)
  | _=>none
 ok:=by intro _ _ h;split at h <;>cases h;rfl
def f44.l0.P:AS:=⟨[(0,.val false [.sl .shr [.leaf,.leaf,.leaf,.leaf,.leaf]] [.lst 0 []] [] 0),(1,qS17),(2,qS18),(3,.val false [.sl .shr [.leaf,.leaf,.leaf,.leaf]] [.lst 0 []] [] 0),(13,qS15),(14,.val false [.sl .own [.leaf,.leaf,.leaf,.leaf]] [.lst 0 []] [] 0),(41,.val false [.sl .shr [.leaf,.leaf,.leaf,.leaf,.leaf]] [.lst 0 []] [] 0),(42,qS17),(43,qS17)],0⟩
def f44.l0.A:Alt (Nat × List T × Nat × List T):=.one (.exit 0) ⟨[(13,qS15),(14,.val false [.sl .own [.leaf,.leaf,.leaf,.leaf]] [.lst 0 []] [] 0)],0⟩ sg_ll
def f44.l0.F (n m:Nat) (v:Nat × List T × Int × Bool × Nat × List T × Nat × List T × Nat × List T × Nat × List T × Int × Int):=f44.l0 n m v.1 v.2.1 v.2.2.1 v.2.2.2.1 v.2.2.2.2.1 v.2.2.2.2.2.1 v.2.2.2.2.2.2.1 v.2.2.2.2.2.2.2.1 v.2.2.2.2.2.2.2.2.1 v.2.2.2.2.2.2.2.2.2.1 v.2.2.2.2.2.2.2.2.2.2.1 v.2.2.2.2.2.2.2.2.2.2.2.1 v.2.2.2.2.2.2.2.2.2.2.2.2.1 v.2.2.2.2.2.2.2.2.2.2.2.2.2
def f44.l0.W (n:Nat):LpW:=.of 96 f44.l0.P sg_libllllii f44.l0.A (f44.l0.F n n)
def f44.P:List Arg:=[⟨.val,⟨false,[.sl .shr [.leaf,.leaf,.leaf,.leaf,.leaf]],[.lst 0 []]⟩⟩,qA10,qA12,⟨.val,⟨false,[.sl .shr [.leaf,.leaf,.leaf,.leaf]],[.lst 0 []]⟩⟩,qA8]
def f44.A:RAlt (Nat × List T × Nat × List T × Bool):=.one ⟨[qV4,⟨false,[.sl .own [.leaf,.leaf,.leaf,.leaf]],[.lst 0 []]⟩,qV5],[none,none,none,none,none]⟩ sg_llb
def f44.F (n:Nat) (v:Nat × List T × Int × Bool × Nat × List T × Nat × List T):=f44 n v.1 v.2.1 v.2.2.1 v.2.2.2.1 v.2.2.2.2.1 v.2.2.2.2.2.1 v.2.2.2.2.2.2.1 v.2.2.2.2.2.2.2
def f44.O (n:Nat):Orc:=orcOf (E:=E) [f95.w,f66.w,f84.w,f96.w] [f44.l0.W n] n
theorem f44.l0.ok:∀ n,LpS 44 c44 0 n (f44.O n):=lpS f44.l0.P sg_libllllii f44.l0.A f44.l0.F
theorem f44.ok:FnS 44 f44.P sg_libll f44.A f44.F:=fnS c44 f44.O [loopAt c44 0] (fun n=>(.cons (f44.l0.ok n) .nil))
def f44.w:FnW E:=fnW 44 f44.P sg_libll f44.A f44.F f44.ok
def f45:Nat→Nat→Nat→Nat→Nat→Nat→Int→Bool→Nat→Nat→Nat→Nat→Nat→List T→Option (Nat × List T × Nat × Nat × Nat × Nat × Bool)
 | 0,_,_,_,_,_,_,_,_,_,_,_,_,_=>none
 | n+1,x1,x2,x3,x4,x5,i6,b7,x8,x9,x10,x11,n12,l13 =>
   bd (f95 n i6) fun r14 =>
   let b15:=r14
   br (!b15) (
    some (0,[],0,0,0,0,false)) (
    bd (f66 n n12 l13) fun r16 =>
    let b17:=r16
    br (!b17) (
     some (0,[],0,0,0,0,false)) (
     bd (f96 n x1 x2 x3 x4 x5 i6 b7 x8 x9 x10 x11 n12 l13) fun r18 =>
     let n19:=r18.1
     let l20:=r18.2.1
     let x21:=r18.2.2.1
     let x22:=r18.2.2.2.1
     let x23:=r18.2.2.2.2.1
     let x24:=r18.2.2.2.2.2
     some (n19,l20,x21,x22,x23,x24,true)))
def sg_lffffb:Sig (Nat × List T × Nat × Nat × Nat × Nat × Bool) where
 pk:=fun v=>[.lst v.1 v.2.1,.flt v.2.2.1,.flt v.2.2.2.1,.flt v.2.2.2.2.1,.flt v.2.2.2.2.2.1,.bool v.2.2.2.2.2.2]
 up:=fun ls=>match ls with
  | [.lst a0 a1,.flt a2,.flt a3,.flt a4,.flt a5,.bool a6]=>some (a0,a1,a2,a3,a4,a5,a6)
  | _=>none
 ok:=by intro _ _ h;split at h <;>cases h;rfl
def f45.P:List Arg:=[qA13,qA10,qA12,qA14,qA8]
def f45.A:RAlt (Nat × List T × Nat × Nat × Nat × Nat × Bool):=.one ⟨[qV4,qV2,qV5],[none,none,none,none,none]⟩ sg_lffffb
def f45.F (n:Nat) (v:Nat × Nat × Nat × Nat × Nat × Int × Bool × Nat × Nat × Nat × Nat × Nat × List T):=f45 n v.1 v.2.1 v.2.2.1 v.2.2.2.1 v.2.2.2.2.1 v.2.2.2.2.2.1 v.2.2.2.2.2.2.1 v.2.2.2.2.2.2.2.1 v.2.2.2.2.2.2.2.2.1 v.2.2.2.2.2.2.2.2.2.1 v.2.2.2.2.2.2.2.2.2.2.1 v.2.2.2.2.2.2.2.2.2.2.2.1 v.2.2.2.2.2.2.2.2.2.2.2.2
def f45.O (n:Nat):Orc:=orcOf (E:=E) [f95.w,f66.w,f96.w] [] n
theorem f45.ok:FnS 45 f45.P sg_fffffibffffl f45.A f45.F:=fnS c45 f45.O
def f45.w:FnW E:=fnW 45 f45.P sg_fffffibffffl f45.A f45.F f45.ok
def f18:Nat→Nat→Nat→Option (Bool)
 | 0,_,_=>none
 | n+1,x1,x2 =>
   br (fne .f32 x1 x1) (
    br (fne .f32 x1 x1) (
     some (fne .f32 x2 x2)) (
     some false)) (
    br (fne .f32 x2 x2) (
     br (fne .f32 x1 x1) (
      some (fne .f32 x2 x2)) (
      some false)) (
     bd (xF32bits n x1) fun r3 =>
     let i4:=r3
     bd (xF32bits n x2) fun r5 =>
     let i6:=r5
     some (i4==i6)))
def sg_ff:Sig (Nat × Nat) where
 pk:=fun v=>[.flt v.1,.flt v.2]
 up:=fun ls=>match ls with
  | [.flt a0,.flt a1]=>some (a0,a1)
  | _=>none
 ok:=by intro _ _ h;split at h <;>cases h;rfl
def f18.P:List Arg:=[qA11,qA11]
def f18.A:RAlt (Bool):=.one ⟨[qV5],[none,none]⟩ sg_b
def f18.F (n:Nat) (v:Nat × Nat):=f18 n v.1 v.2
def f18.O (n:Nat):Orc:=orcOf (E:=E) [x70.w] [] n
theorem f18.ok:FnS 18 f18.P sg_ff f18.A f18.F:=fnS c18 f18.O
def f18.w:FnW E:=fnW 18 f18.P sg_ff f18.A f18.F f18.ok
def f25.l0 (n:Nat):Nat→Nat→List T→Nat→List T→Int→Option ((Bool) ⊕ (Unit))
 | 0,_,_,_,_,_=>none
 | m+1,n1,l2,n3,l4,i5 =>
   br (decide (i5<(n1:Int))) (
    gd ((decide ((0≤i5)∧(i5<(n1:Int))))&&(okAt [(CK.flt .f32)] l2 (Int.toNat i5))) (
    gd ((decide ((0≤i5)∧(i5<(n3:Int))))&&(okAt [(CK.flt .f32)] l4 (Int.toNat i5))) (
    bd (f18 n (fAt l2 (Int.toNat i5)) (fAt l4 (Int.toNat i5))) fun r6 =>
    let b7:=r6
    br (!b7) (
     some (Sum.inl false)) (
     f25.l0 n m n1 l2 n3 l4 (IntKind.i64.wrap (i5+(1:Int))))))) (
    some (Sum.inr ()))
def f25:Nat→Nat→List T→Nat→List T→Option (Bool)
 | 0,_,_,_,_=>none
 | n+1,n1,l2,n3,l4 =>
   br ((n1:Int) != (n3:Int)) (
    some false) (
    bd (f25.l0 n n n1 l2 n3 l4 (0:Int)) fun r5 =>
    sm r5 (fun u6 =>
     let b7:=u6
     some b7) (fun u8 =>
     some true))
def sg_lli:Sig (Nat × List T × Nat × List T × Int) where
 pk:=fun v=>[.lst v.1 v.2.1,.lst v.2.2.1 v.2.2.2.1,.int v.2.2.2.2]
 up:=fun ls=>match ls with
  | [.lst a0 a1,.lst a2 a3,.int a4]=>some (a0,a1,a2,a3,a4)
  | _=>none
 ok:=by intro _ _ h;split at h <;>cases h;rfl
def sg:Sig (Unit) where
 pk:=fun v=>[]
 up:=fun ls=>match ls with
  | []=>some ()
  | _=>none
 ok:=by intro _ _ h;split at h <;>cases h;rfl
def f25.l0.P:AS:=⟨[(0,qS16),(1,qS16),(5,qS17)],0⟩
def f25.l0.A:Alt ((Bool) ⊕ (Unit)):=.or (.one .ret ⟨[(4,qS18)],0⟩ sg_b) (.one (.exit 0) ⟨[(4,.dead)],0⟩ sg)
def f25.l0.F (n m:Nat) (v:Nat × List T × Nat × List T × Int):=f25.l0 n m v.1 v.2.1 v.2.2.1 v.2.2.2.1 v.2.2.2.2
def f25.l0.W (n:Nat):LpW:=.of 64 f25.l0.P sg_lli f25.l0.A (f25.l0.F n n)
def f25.P:List Arg:=[qA8,qA8]
def f25.A:RAlt (Bool):=.one ⟨[qV5],[none,none]⟩ sg_b
def f25.F (n:Nat) (v:Nat × List T × Nat × List T):=f25 n v.1 v.2.1 v.2.2.1 v.2.2.2
def f25.O (n:Nat):Orc:=orcOf (E:=E) [f18.w] [f25.l0.W n] n
theorem f25.l0.ok:∀ n,LpS 25 c25 0 n (f25.O n):=lpS f25.l0.P sg_lli f25.l0.A f25.l0.F
theorem f25.ok:FnS 25 f25.P sg_ll f25.A f25.F:=fnS c25 f25.O [loopAt c25 0] (fun n=>(.cons (f25.l0.ok n) .nil))
def f25.w:FnW E:=fnW 25 f25.P sg_ll f25.A f25.F f25.ok
def f46:Nat→Nat→Nat→Nat→Nat→Nat→Nat→Nat→Nat→Option (Bool)
 | 0,_,_,_,_,_,_,_,_=>none
 | n+1,x1,x2,x3,x4,x5,x6,x7,x8 =>
   bd (f18 n x1 x5) fun r9 =>
   let b10:=r9
   br b10 (
    bd (f18 n x2 x6) fun r11 =>
    let b12:=r11
    br b12 (
     bd (f18 n x3 x7) fun r13 =>
     let b14:=r13
     br b14 (
      bd (f18 n x4 x8) fun r15 =>
      let b16:=r15
      some b16) (
      some false)) (
     some false)) (
    some false)
def sg_ffffffff:Sig (Nat × Nat × Nat × Nat × Nat × Nat × Nat × Nat) where
 pk:=fun v=>[.flt v.1,.flt v.2.1,.flt v.2.2.1,.flt v.2.2.2.1,.flt v.2.2.2.2.1,.flt v.2.2.2.2.2.1,.flt v.2.2.2.2.2.2.1,.flt v.2.2.2.2.2.2.2]
 up:=fun ls=>match ls with
  | [.flt a0,.flt a1,.flt a2,.flt a3,.flt a4,.flt a5,.flt a6,.flt a7]=>some (a0,a1,a2,a3,a4,a5,a6,a7)
  | _=>none
 ok:=by intro _ _ h;split at h <;>cases h;rfl
def f46.P:List Arg:=[qA14,qA14]
def f46.A:RAlt (Bool):=.one ⟨[qV5],[none,none]⟩ sg_b
def f46.F (n:Nat) (v:Nat × Nat × Nat × Nat × Nat × Nat × Nat × Nat):=f46 n v.1 v.2.1 v.2.2.1 v.2.2.2.1 v.2.2.2.2.1 v.2.2.2.2.2.1 v.2.2.2.2.2.2.1 v.2.2.2.2.2.2.2
def f46.O (n:Nat):Orc:=orcOf (E:=E) [f18.w] [] n
theorem f46.ok:FnS 46 f46.P sg_ffffffff f46.A f46.F:=fnS c46 f46.O
def f46.w:FnW E:=fnW 46 f46.P sg_ffffffff f46.A f46.F f46.ok
def f81:Nat→Int→Option (Bool)
 | 0,_=>none
 | n+1,i1 =>
   bd (f67 n i1 (0:Int) (256:Int)) fun r2 =>
   let b3:=r2
   some b3
def f81.P:List Arg:=[qA10]
def f81.A:RAlt (Bool):=.one ⟨[qV5],[none]⟩ sg_b
def f81.F (n:Nat) (v:Int):=f81 n v
def f81.O (n:Nat):Orc:=orcOf (E:=E) [f67.w] [] n
theorem f81.ok:FnS 81 f81.P sg_i f81.A f81.F:=fnS c81 f81.O
def f81.w:FnW E:=fnW 81 f81.P sg_i f81.A f81.F f81.ok
def f91:Nat→Int→Option (Nat × List T)
 | 0,_=>none
 | n+1,i1 =>
   gd (decide ((0≤i1)∧(i1≤(2147483648:Int)))) (
   some ((Int.toNat i1),(reps (Int.toNat i1) [(T.flt .f32 0)])))
def f91.P:List Arg:=[qA10]
def f91.A:RAlt (Nat × List T):=.one ⟨[qV4],[none]⟩ sg_l
def f91.F (n:Nat) (v:Int):=f91 n v
def f91.O (n:Nat):Orc:=orcOf (E:=E) [] [] n
theorem f91.ok:FnS 91 f91.P sg_i f91.A f91.F:=fnS c91 f91.O
def f91.w:FnW E:=fnW 91 f91.P sg_i f91.A f91.F f91.ok
def f82:Nat→Int→Option (Nat × List T)
 | 0,_=>none
 | n+1,i1 =>
   bd (f91 n i1) fun r2 =>
   let n3:=r2.1
   let l4:=r2.2
   br (decide (i1>(0:Int))) (
    gd (decide ((0≤(0:Int))∧((0:Int)<(n3:Int)))) (
    gd (Nat.ble 1 (List.length l4)) (
    let l5:=(setN l4 0 [(T.flt .f32 1065353216)])
    some (n3,l5)))) (
    some (n3,l4))
def f82.P:List Arg:=[qA10]
def f82.A:RAlt (Nat × List T):=.one ⟨[qV4],[none]⟩ sg_l
def f82.F (n:Nat) (v:Int):=f82 n v
def f82.O (n:Nat):Orc:=orcOf (E:=E) [f91.w] [] n
theorem f82.ok:FnS 82 f82.P sg_i f82.A f82.F:=fnS c82 f82.O
def f82.w:FnW E:=fnW 82 f82.P sg_i f82.A f82.F f82.ok
def f47:Nat→Nat→Nat→Nat→Nat→Nat→Int→Int→Option (Nat × List T × Bool)
 | 0,_,_,_,_,_,_,_=>none
 | n+1,x1,x2,x3,x4,x5,i6,i7 =>
   bd (f95 n i6) fun r8 =>
   let b9:=r8
   br (!b9) (
    some (0,[],false)) (
    bd (f81 n i7) fun r10 =>
    let b11:=r10
    br (!b11) (
     some (0,[],false)) (
     bd (f82 n i7) fun r12 =>
     let n13:=r12.1
     let l14:=r12.2
     bd (f96 n x1 x2 x3 x4 x5 i6 false 0 0 0 0 n13 l14) fun r15 =>
     let n16:=r15.1
     let l17:=r15.2.1
     some (n16,l17,true)))
def sg_fffffii:Sig (Nat × Nat × Nat × Nat × Nat × Int × Int) where
 pk:=fun v=>[.flt v.1,.flt v.2.1,.flt v.2.2.1,.flt v.2.2.2.1,.flt v.2.2.2.2.1,.int v.2.2.2.2.2.1,.int v.2.2.2.2.2.2]
 up:=fun ls=>match ls with
  | [.flt a0,.flt a1,.flt a2,.flt a3,.flt a4,.int a5,.int a6]=>some (a0,a1,a2,a3,a4,a5,a6)
  | _=>none
 ok:=by intro _ _ h;split at h <;>cases h;rfl
def sg_lb:Sig (Nat × List T × Bool) where
 pk:=fun v=>[.lst v.1 v.2.1,.bool v.2.2]
 up:=fun ls=>match ls with
  | [.lst a0 a1,.bool a2]=>some (a0,a1,a2)
  | _=>none
 ok:=by intro _ _ h;split at h <;>cases h;rfl
def f47.P:List Arg:=[qA13,qA10,qA10]
def f47.A:RAlt (Nat × List T × Bool):=.one ⟨[qV4,qV5],[none,none,none]⟩ sg_lb
def f47.F (n:Nat) (v:Nat × Nat × Nat × Nat × Nat × Int × Int):=f47 n v.1 v.2.1 v.2.2.1 v.2.2.2.1 v.2.2.2.2.1 v.2.2.2.2.2.1 v.2.2.2.2.2.2
def f47.O (n:Nat):Orc:=orcOf (E:=E) [f95.w,f96.w,f81.w,f82.w] [] n
theorem f47.ok:FnS 47 f47.P sg_fffffii f47.A f47.F:=fnS c47 f47.O
def f47.w:FnW E:=fnW 47 f47.P sg_fffffii f47.A f47.F f47.ok
def f48.l0 (n:Nat):Nat→Nat→Nat→Nat→Nat→Nat→Nat→List T→Int→Option (Nat × List T)
 | 0,_,_,_,_,_,_,_,_=>none
 | m+1,x1,x2,x3,x4,x5,n6,l7,i8 =>
   br (decide (i8<(2:Int))) (
    bd (f96 n x1 x2 x3 x4 x5 (0:Int) false 0 0 0 0 n6 l7) fun r9 =>
    let n10:=r9.1
    let l11:=r9.2.1
    bd (xReverse n n10 l11) fun r16 =>
    let n17:=r16.1
    let l18:=r16.2
    f48.l0 n m x1 x2 x3 x4 x5 n17 l18 (IntKind.i64.wrap (i8+(1:Int)))) (
    some (n6,l7))
def f48:Nat→Nat→Nat→Nat→Nat→Nat→Nat→List T→Option (Nat × List T × Bool)
 | 0,_,_,_,_,_,_,_=>none
 | n+1,x1,x2,x3,x4,x5,n6,l7 =>
   bd (f66 n n6 l7) fun r8 =>
   let b9:=r8
   br (!b9) (
    some (0,[],false)) (
    bd (f84 n n6 l7) fun r10 =>
    let n11:=r10.1
    let l12:=r10.2
    bd (f48.l0 n n x1 x2 x3 x4 x5 n11 l12 (0:Int)) fun r13 =>
    let n14:=r13.1
    let l15:=r13.2
    some (n14,l15,true))
def sg_fffffl:Sig (Nat × Nat × Nat × Nat × Nat × Nat × List T) where
 pk:=fun v=>[.flt v.1,.flt v.2.1,.flt v.2.2.1,.flt v.2.2.2.1,.flt v.2.2.2.2.1,.lst v.2.2.2.2.2.1 v.2.2.2.2.2.2]
 up:=fun ls=>match ls with
  | [.flt a0,.flt a1,.flt a2,.flt a3,.flt a4,.lst a5 a6]=>some (a0,a1,a2,a3,a4,a5,a6)
  | _=>none
 ok:=by intro _ _ h;split at h <;>cases h;rfl
def sg_fffffli:Sig (Nat × Nat × Nat × Nat × Nat × Nat × List T × Int) where
 pk:=fun v=>[.flt v.1,.flt v.2.1,.flt v.2.2.1,.flt v.2.2.2.1,.flt v.2.2.2.2.1,.lst v.2.2.2.2.2.1 v.2.2.2.2.2.2.1,.int v.2.2.2.2.2.2.2]
 up:=fun ls=>match ls with
  | [.flt a0,.flt a1,.flt a2,.flt a3,.flt a4,.lst a5 a6,.int a7]=>some (a0,a1,a2,a3,a4,a5,a6,a7)
  | _=>none
 ok:=by intro _ _ h;split at h <;>cases h;rfl
def f48.l0.P:AS:=⟨[(2,.box [.leaf,.leaf,.leaf,.leaf,.leaf] [.flt .f32 0,.flt .f32 0,.flt .f32 0,.flt .f32 0,.flt .f32 0] [] 0),(6,qS15),(7,qS17)],0⟩
def f48.l0.A:Alt (Nat × List T):=.one (.exit 0) ⟨[(6,qS15)],0⟩ sg_l
def f48.l0.F (n m:Nat) (v:Nat × Nat × Nat × Nat × Nat × Nat × List T × Int):=f48.l0 n m v.1 v.2.1 v.2.2.1 v.2.2.2.1 v.2.2.2.2.1 v.2.2.2.2.2.1 v.2.2.2.2.2.2.1 v.2.2.2.2.2.2.2
def f48.l0.W (n:Nat):LpW:=.of 80 f48.l0.P sg_fffffli f48.l0.A (f48.l0.F n n)
def f48.P:List Arg:=[qA13,qA8]
def f48.A:RAlt (Nat × List T × Bool):=.one ⟨[qV4,qV5],[none,none]⟩ sg_lb
def f48.F (n:Nat) (v:Nat × Nat × Nat × Nat × Nat × Nat × List T):=f48 n v.1 v.2.1 v.2.2.1 v.2.2.2.1 v.2.2.2.2.1 v.2.2.2.2.2.1 v.2.2.2.2.2.2
def f48.O (n:Nat):Orc:=orcOf (E:=E) [x97.w,f66.w,f84.w,f96.w] [f48.l0.W n] n
theorem f48.l0.ok:∀ n,LpS 48 c48 0 n (f48.O n):=lpS f48.l0.P sg_fffffli f48.l0.A f48.l0.F
theorem f48.ok:FnS 48 f48.P sg_fffffl f48.A f48.F:=fnS c48 f48.O [loopAt c48 0] (fun n=>(.cons (f48.l0.ok n) .nil))
def f48.w:FnW E:=fnW 48 f48.P sg_fffffl f48.A f48.F f48.ok
def f49.l0 (n:Nat):Nat→Nat→List T→Nat→List T→Int→Option (Nat × List T)
 | 0,_,_,_,_,_=>none
 | m+1,n1,l2,n3,l4,i5 =>
   br (decide (i5≥(0:Int))) (
    gd ((decide ((0≤i5)∧(i5<(n1:Int))))&&(okAt [(CK.flt .f32)] l2 (Int.toNat i5))) (
    gd (Nat.ble (n3+1) 2147483648) (
    let n6:=(n3+1)
    let l7:=(l4++(setN (reps 1 [(T.flt .f32 0)]) 0 [(T.flt .f32 (fAt l2 (Int.toNat i5)))]))
    f49.l0 n m n1 l2 n6 l7 (IntKind.i64.wrap (i5 - (1:Int)))))) (
    some (n3,l4))
def f49:Nat→Nat→List T→Option (Nat × List T)
 | 0,_,_=>none
 | n+1,n1,l2 =>
   bd (f49.l0 n n n1 l2 0 (reps 0 [(T.flt .f32 0)]) (IntKind.i64.wrap ((n1:Int) - (1:Int)))) fun r3 =>
   let n4:=r3.1
   let l5:=r3.2
   some (n4,l5)
def f49.l0.P:AS:=⟨[(0,qS16),(3,qS15),(4,qS17)],0⟩
def f49.l0.A:Alt (Nat × List T):=.one (.exit 0) ⟨[(3,qS15)],0⟩ sg_l
def f49.l0.F (n m:Nat) (v:Nat × List T × Nat × List T × Int):=f49.l0 n m v.1 v.2.1 v.2.2.1 v.2.2.2.1 v.2.2.2.2
def f49.l0.W (n:Nat):LpW:=.of 48 f49.l0.P sg_lli f49.l0.A (f49.l0.F n n)
def f49.P:List Arg:=[qA8]
def f49.A:RAlt (Nat × List T):=.one ⟨[qV4],[none]⟩ sg_l
def f49.F (n:Nat) (v:Nat × List T):=f49 n v.1 v.2
def f49.O (n:Nat):Orc:=orcOf (E:=E) [] [f49.l0.W n] n
theorem f49.l0.ok:∀ n,LpS 49 c49 0 n (f49.O n):=lpS f49.l0.P sg_lli f49.l0.A f49.l0.F
theorem f49.ok:FnS 49 f49.P sg_l f49.A f49.F:=fnS c49 f49.O [loopAt c49 0] (fun n=>(.cons (f49.l0.ok n) .nil))
def f49.w:FnW E:=fnW 49 f49.P sg_l f49.A f49.F f49.ok
def f7:Nat→Nat→List T→Nat→List T→Option (Bool)
 | 0,_,_,_,_=>none
 | n+1,n1,l2,n3,l4 =>
   bd (f12 n n1 l2 n3 l4) fun r5 =>
   let b6:=r5
   br b6 (
    some true) (
    bd (f42 n n1 l2) fun r7 =>
    let x8:=r7.1
    let x9:=r7.2.1
    let x10:=r7.2.2.1
    let x11:=r7.2.2.2.1
    let x12:=r7.2.2.2.2
    bd (f42 n n3 l4) fun r13 =>
    let x14:=r13.1
    let x15:=r13.2.1
    let x16:=r13.2.2.1
    let x17:=r13.2.2.2.1
    let x18:=r13.2.2.2.2
    bd (f43 n n1 l2) fun r19 =>
    let x20:=r19.1
    let x21:=r19.2.1
    let x22:=r19.2.2.1
    let x23:=r19.2.2.2
    bd (f43 n n3 l4) fun r24 =>
    let x25:=r24.1
    let x26:=r24.2.1
    let x27:=r24.2.2.1
    let x28:=r24.2.2.2
    bd (f21 n n3 l4 (10:Int)) fun r29 =>
    let n30:=r29.1
    let l31:=r29.2
    bd (f14 n n1 l2 (40:Int) (3:Int)) fun r32 =>
    let i33:=r32
    bd (f44 n 2 (setN (setN (reps 2 [(T.flt .f32 0),(T.flt .f32 0),(T.flt .f32 0),(T.flt .f32 0),(T.flt .f32 0)]) 0 [(T.flt .f32 x8),(T.flt .f32 x9),(T.flt .f32 x10),(T.flt .f32 x11),(T.flt .f32 x12)]) 5 [(T.flt .f32 x14),(T.flt .f32 x15),(T.flt .f32 x16),(T.flt .f32 x17),(T.flt .f32 x18)]) i33 true 2 (setN (setN (reps 2 [(T.flt .f32 0),(T.flt .f32 0),(T.flt .f32 0),(T.flt .f32 0)]) 0 [(T.flt .f32 x20),(T.flt .f32 x21),(T.flt .f32 x22),(T.flt .f32 x23)]) 4 [(T.flt .f32 x25),(T.flt .f32 x26),(T.flt .f32 x27),(T.flt .f32 x28)]) n30 l31) fun r34 =>
    let n35:=r34.1
    let l36:=r34.2.1
    let n37:=r34.2.2.1
    let l38:=r34.2.2.2.1
    let b39:=r34.2.2.2.2
    bd (f45 n x8 x9 x10 x11 x12 i33 true x20 x21 x22 x23 n30 l31) fun r40 =>
    let n41:=r40.1
    let l42:=r40.2.1
    let x43:=r40.2.2.1
    let x44:=r40.2.2.2.1
    let x45:=r40.2.2.2.2.1
    let x46:=r40.2.2.2.2.2.1
    let b47:=r40.2.2.2.2.2.2
    bd (f45 n x14 x15 x16 x17 x18 i33 true x25 x26 x27 x28 n41 l42) fun r48 =>
    let n49:=r48.1
    let l50:=r48.2.1
    let x51:=r48.2.2.1
    let x52:=r48.2.2.2.1
    let x53:=r48.2.2.2.2.1
    let x54:=r48.2.2.2.2.2.1
    let b55:=r48.2.2.2.2.2.2
    br (!b39) (
     some false) (
     br (!b47) (
      some false) (
      br (!b55) (
       some false) (
       bd (f25 n n35 l36 n49 l50) fun r56 =>
       let b57:=r56
       br (!b57) (
        some false) (
        br ((n37:Int) != (2:Int)) (
         some false) (
         gd (decide ((0≤(0:Int))∧((0:Int)<(n37:Int)))) (
         gd (okAt [(CK.flt .f32),(CK.flt .f32),(CK.flt .f32),(CK.flt .f32)] l38 0) (
         bd (f46 n (fAt l38 0) (fAt l38 1) (fAt l38 2) (fAt l38 3) x43 x44 x45 x46) fun r58 =>
         let b59:=r58
         br (!b59) (
          some false) (
          gd (decide ((0≤(1:Int))∧((1:Int)<(n37:Int)))) (
          gd (okAt [(CK.flt .f32),(CK.flt .f32),(CK.flt .f32),(CK.flt .f32)] l38 4) (
          bd (f46 n (fAt l38 4) (fAt l38 5) (fAt l38 6) (fAt l38 7) x51 x52 x53 x54) fun r60 =>
          let b61:=r60
          br (!b61) (
           some false) (
           bd (f47 n x8 x9 x10 x11 x12 i33 (9:Int)) fun r62 =>
           let n63:=r62.1
           let l64:=r62.2.1
           let b65:=r62.2.2
           bd (f45 n x8 x9 x10 x11 x12 i33 false 0 0 0 0 9 (setN (setN (setN (setN (setN (setN (setN (setN (setN (reps 9 [(T.flt .f32 0)]) 0 [(T.flt .f32 1065353216)]) 1 [(T.flt .f32 0)]) 2 [(T.flt .f32 0)]) 3 [(T.flt .f32 0)]) 4 [(T.flt .f32 0)]) 5 [(T.flt .f32 0)]) 6 [(T.flt .f32 0)]) 7 [(T.flt .f32 0)]) 8 [(T.flt .f32 0)])) fun r66 =>
           let n67:=r66.1
           let l68:=r66.2.1
           let b73:=r66.2.2.2.2.2.2
           bd (f48 n x8 x9 x10 x11 x12 n30 l31) fun r74 =>
           let n75:=r74.1
           let l76:=r74.2.1
           let b77:=r74.2.2
           bd (f45 n x8 x9 x10 x11 x12 (0:Int) false 0 0 0 0 n30 l31) fun r78 =>
           let n79:=r78.1
           let l80:=r78.2.1
           let b85:=r78.2.2.2.2.2.2
           bd (f49 n n79 l80) fun r86 =>
           let n87:=r86.1
           let l88:=r86.2
           bd (f45 n x8 x9 x10 x11 x12 (0:Int) false 0 0 0 0 n87 l88) fun r89 =>
           let n90:=r89.1
           let l91:=r89.2.1
           let b96:=r89.2.2.2.2.2.2
           br b65 (
            br b73 (
             br b77 (
              br b85 (
               br b96 (
                bd (f25 n n63 l64 n67 l68) fun r97 =>
                let b98:=r97
                br b98 (
                 bd (f49 n n90 l91) fun r99 =>
                 let n100:=r99.1
                 let l101:=r99.2
                 bd (f25 n n75 l76 n100 l101) fun r102 =>
                 let b103:=r102
                 some b103) (
                 some false)) (
                some false)) (
               some false)) (
              some false)) (
             some false)) (
            some false)))))))))))))
def f7.P:List Arg:=[qA8,qA8]
def f7.A:RAlt (Bool):=.one ⟨[qV5],[none,none]⟩ sg_b
def f7.F (n:Nat) (v:Nat × List T × Nat × List T):=f7 n v.1 v.2.1 v.2.2.1 v.2.2.2
def f7.O (n:Nat):Orc:=orcOf (E:=E) [f12.w,f42.w,f43.w,f21.w,f14.w,f44.w,f45.w,f25.w,f46.w,f47.w,f48.w,f49.w] [] n
theorem f7.ok:FnS 7 f7.P sg_ll f7.A f7.F:=fnS c7 f7.O
def f7.w:FnW E:=fnW 7 f7.P sg_ll f7.A f7.F f7.ok
end Go.Proofs.Ytdobhipbgpiceaa.D
end
section
namespace Go.Proofs.Ytdobhipbgpiceaa.D
open Go Go.Desk
set_option linter.unusedVariables false
theorem s_from (n l:Nat) (c:List T):f64 (n+1) l c=some (l,c,0,0):=by rw[f64]
theorem s_next (n:Nat) {bs:List Int} (hb:Bytes bs) {a:Int} (h0:0≤a) (h1:a≤1125899906842624) (sd:Int) :
  ∃ r sd',(0≤r∧r≤255)∧f134 (n+1) bs.length (its .u8 bs) a sd=some (r,bs.length,its .u8 bs,a+1,sd'):=by
 rw[f134]
 rw[show IntKind.i64.wrap (a+1)=a+1 by rw[wrap64] <;>omega]
 cases h:decide (a<(bs.length:Int))
 ·simp only[br_f]
  cases decide (a+1≤(bs.length:Int))
  ·exact ⟨_,_,and255 _,rfl⟩
  ·exact ⟨0,_,by omega,rfl⟩
 ·simp only[decide_eq_true_eq] at h
  obtain ⟨i,rfl⟩:=Int.eq_ofNat_of_zero_le h0
  have hi:i<bs.length:=by omega
  have hr:=hb (bs[i]) (List.getElem_mem _)
  simp only[br_t,in_dec hi,Int.toNat_natCast,okAt_its hi,Bool.and_self,gd_t,iAt_its]
  rw[show bs.getD i 0=bs[i] by simp[List.getD,hi],show IntKind.i64.wrap bs[i]=bs[i] by rw[wrap64] <;>omega]
  cases decide ((i:Int)+1≤(bs.length:Int))
  ·exact ⟨_,_,and255 _,rfl⟩
  ·exact ⟨_,_,hr,rfl⟩
theorem s_pick (n:Nat) {bs:List Int} (hb:Bytes bs) {a:Int} (h0:0≤a) (h1:a≤1125899906842622) (sd k:Int) :
  ∃ r a' sd',(0≤r∧(1<k→r<k)∧(k≤1→r=0))∧(a≤a'∧a'≤a+2)∧f74 (n+2) bs.length (its .u8 bs) a sd k=some (r,bs.length,its .u8 bs,a',sd'):=by
 rw[f74]
 by_cases hk:k≤1
 ·rw[decide_eq_true hk];exact ⟨0,a,sd,by omega,by omega,rfl⟩
 rw[decide_eq_false hk]
 obtain ⟨r,s1,hr,e1⟩:=s_next n hb h0 (by omega) sd
 simp only[br_f,e1,bd_s]
 have hk0:(!decide (k=0))=true:=by simp;omega
 by_cases hk2:k>200
 ·rw[decide_eq_true hk2]
  obtain ⟨r',s2,hr',e2⟩:=s_next n hb (a:=a+1) (by omega) (by omega) s1
  simp only[br_t,e2,bd_s,hk0,gd_t]
  rw[show IntKind.i64.wrap (r * 256)=r * 256 by rw[wrap64] <;>omega,show IntKind.i64.wrap (r * 256+r')=r * 256+r' by rw[wrap64] <;>omega]
  refine ⟨_,_,_,?_,?_,rfl⟩
  ·rw[Int.tmod_eq_emod_of_nonneg (by omega)]
   have:=Int.emod_nonneg (r * 256+r') (show k≠0 by omega)
   have:=Int.emod_lt_of_pos (r * 256+r') (show 0<k by omega)
   omega
  ·omega
 ·rw[decide_eq_false hk2]
  simp only[br_f,hk0,gd_t]
  refine ⟨_,_,_,?_,?_,rfl⟩
  ·rw[Int.tmod_eq_emod_of_nonneg (by omega)]
   have:=Int.emod_nonneg r (show k≠0 by omega)
   have:=Int.emod_lt_of_pos r (show 0<k by omega)
   omega
  ·omega
theorem s_one (n:Nat) {bs:List Int} (hb:Bytes bs) {a:Int} (h0:0≤a) (h1:a≤1125899906842622) (sd k:Int) :
  ∃ r a' sd',(a≤a'∧a'≤a+2)∧f130 (n+3) bs.length (its .u8 bs) a sd k=some (r,bs.length,its .u8 bs,a',sd'):=by
 obtain ⟨r,a',s',-,ha,e⟩:=s_pick n hb h0 h1 sd k
 rw[f130,e]
 exact ⟨_,_,_,ha,rfl⟩
theorem s_plain (n:Nat) {bs:List Int} (hb:Bytes bs) {a:Int} (h0:0≤a) (h1:a≤1125899906842620) (sd:Int) :
  ∃ x a' sd',Plain x∧(a≤a'∧a'≤a+4)∧f65 (n+4) bs.length (its .u8 bs) a sd=some (x,bs.length,its .u8 bs,a',sd'):=by
 obtain ⟨r,a1,s1,hr,ha,e⟩:=s_pick (n+1) hb h0 (by omega) sd 129
 obtain ⟨b,a2,s2,ha2,e2⟩:=s_one n hb (a:=a1) (by omega) (by omega) s1 4
 rw[f65,e]
 simp only[bd_s,e2]
 rw[show IntKind.i64.wrap (r - 64)=r - 64 by rw[wrap64] <;>omega]
 cases b
 ·exact ⟨_,a2,s2,⟨r - 64,by omega,.inr rfl⟩,by omega,rfl⟩
 ·exact ⟨_,a2,s2,⟨r - 64,by omega,.inl rfl⟩,by omega,rfl⟩
theorem s_among (n:Nat) {bs:List Int} (hb:Bytes bs) {a:Int} (h0:0≤a) (h1:a≤1125899906842622) (sd:Int) (L:List Int) (hL:0<L.length) :
  ∃ r a' sd',r∈L∧(a≤a'∧a'≤a+2)∧f139 (n+3) bs.length (its .u8 bs) a sd L.length (its .i64 L)=some (r,bs.length,its .u8 bs,a',sd',L.length,its .i64 L):=by
 obtain ⟨r,a1,s1,hr,ha,e⟩:=s_pick n hb h0 h1 sd (L.length:Int)
 rw[f139,e]
 obtain ⟨i,rfl⟩:=Int.eq_ofNat_of_zero_le hr.1
 have hi:i<L.length:=by
  by_cases h:(L.length:Int)≤1
  ·have:=hr.2.2 h;omega
  ·have:=hr.2.1 (by omega);omega
 simp only[bd_s,in_dec hi,Int.toNat_natCast,okAt_its hi,Bool.and_self,gd_t,iAt_its]
 refine ⟨_,_,_,?_,ha,rfl⟩
 rw[show L.getD i 0=L[i] by simp[List.getD,hi]]
 exact List.getElem_mem _
theorem s_from32 (n:Nat) {i:Int} (h0:0≤i) (h1:i<4294967296):∃ x,W32 x∧f138 (n+2) i=some x:=by
 rw[f138]
 refine ⟨canon .f32 i.toNat,w32_canon (by omega),?_⟩
 rw[u32_wrap h0 h1]
 show bd (if 0≤i then some (canon .f32 i.toNat) else none) _=_
 rw[if_pos h0];rfl
theorem s_float (n:Nat) {bs:List Int} (hb:Bytes bs) {a:Int} (h0:0≤a) (h1:a≤1125899906842600) (sd:Int) :
  ∃ x a' sd',W32 x∧(a≤a'∧a'≤a+16)∧f86 (n+5) bs.length (its .u8 bs) a sd=some (x,bs.length,its .u8 bs,a',sd'):=by
 obtain ⟨b,a1,s1,ha1,e1⟩:=s_one (n+1) hb h0 (by omega) sd 12
 rw[f86,e1]
 simp only[bd_s,br_not]
 cases b
 ·obtain ⟨x,a2,s2,hx,ha2,e2⟩:=s_plain n hb (a:=a1) (by omega) (by omega) s1
  simp only[br_f,e2,bd_s]
  exact ⟨_,_,_,hx.w32,by omega,rfl⟩
 obtain ⟨q,a2,s2,-,ha2,e2⟩:=s_pick (n+2) hb (a:=a1) (by omega) (by omega) s1 4
 simp only[br_t,e2,bd_s]
 cases q==0
 case true =>
  obtain ⟨r,a3,s3,hr,ha3,e3⟩:=s_among (n+1) hb (a:=a2) (by omega) (by omega) s2 [0,2147483648,2139095040,4286578688,2143289344,1,2139095039,8388608,8388607,2147483649] (by decide)
  have hr':0≤r∧r<4294967296:=by simp only[List.mem_cons,List.not_mem_nil,or_false] at hr;omega
  obtain ⟨x,hx,e4⟩:=s_from32 (n+2) hr'.1 hr'.2
  rw[br_t]
  refine ⟨x,a3,s3,hx,by omega,?_⟩
  refine Eq.trans (congrArg (fun o=>bd o _) e3) ?_
  simp only[bd_s,e4]
 cases q==1
 case true =>
  obtain ⟨r,a3,s3,hr,ha3,e3⟩:=s_pick (n+2) hb (a:=a2) (by omega) (by omega) s2 65536
  obtain ⟨r',a4,s4,hr',ha4,e4⟩:=s_pick (n+2) hb (a:=a3) (by omega) (by omega) s3 65536
  obtain ⟨x,hx,e5⟩:=s_from32 (n+2) (i:=r * 65536+r') (by omega) (by omega)
  simp only[br_f,br_t,e3,e4,bd_s]
  rw[show IntKind.i64.wrap (r * 65536)=r * 65536 by rw[wrap64] <;>omega,show IntKind.i64.wrap (r * 65536+r')=r * 65536+r' by rw[wrap64] <;>omega,e5]
  exact ⟨x,_,_,hx,by omega,rfl⟩
 cases q==2
 case true =>
  obtain ⟨r,a3,s3,hr,ha3,e3⟩:=s_pick (n+2) hb (a:=a2) (by omega) (by omega) s2 65536
  obtain ⟨x,hx,e5⟩:=s_from32 (n+2) (i:=r * 65536) (by omega) (by omega)
  simp only[br_f,br_t,e3,bd_s]
  rw[show IntKind.i64.wrap (r * 65536)=r * 65536 by rw[wrap64] <;>omega,e5]
  exact ⟨x,_,_,hx,by omega,rfl⟩
 obtain ⟨x,a3,s3,hx,ha3,e3⟩:=s_plain n hb (a:=a2) (by omega) (by omega) s2
 obtain ⟨r,a4,s4,hr,ha4,e4⟩:=s_among (n+1) hb (a:=a3) (by omega) (by omega) s3 [8388608,2130706432,1610612736,536870912] (by decide)
 have hr':0≤r∧r<4294967296:=by simp only[List.mem_cons,List.not_mem_nil,or_false] at hr;omega
 obtain ⟨y,hy,e5⟩:=s_from32 (n+2) hr'.1 hr'.2
 simp only[br_f,e3,bd_s]
 refine ⟨_,a4,s4,w32_fmul x y,by omega,?_⟩
 refine Eq.trans (congrArg (fun o=>bd o _) e4) ?_
 simp only[bd_s,e5]
theorem s_floats_loop (n:Nat) {bs:List Int} (hb:Bytes bs) (str:Bool):∀ (j m:Nat) (a sd:Int) (acc:List Nat),0≤a→a+16 * (j:Int)≤1125899906842000→acc.length+j≤2147483647→j<m→(∀ x∈acc,W32 x) →
  ∃ ys a' sd',ys.length=acc.length+j∧(∀ x∈ys,W32 x)∧(a≤a'∧a'≤a+16 * (j:Int)) ∧
   f73.l0 (n+5) m bs.length (its .u8 bs) a sd (j:Int) acc.length (fls .f32 acc) str=some (bs.length,its .u8 bs,a',sd',ys.length,fls .f32 ys):=by
 intro j
 induction j with
 | zero =>
   intro m a sd acc h0 h1 hl hm hw
   obtain ⟨m,rfl⟩:∃ k,m=k+1:=⟨m - 1,by omega⟩
   rw[f73.l0]
   exact ⟨acc,a,sd,by omega,hw,by omega,rfl⟩
 | succ j ih =>
   intro m a sd acc h0 h1 hl hm hw
   obtain ⟨m,rfl⟩:∃ k,m=k+1:=⟨m - 1,by omega⟩
   rw[f73.l0,decide_eq_true (show (((j+1:Nat):Int)>0) by omega),show IntKind.i64.wrap (((j+1:Nat):Int) - 1)=(j:Int) by rw[wrap64] <;>omega]
   have key:∀ x a1 s1,W32 x→a≤a1→a1≤a+16→∃ ys a' sd',ys.length=acc.length+(j+1)∧(∀ x∈ys,W32 x)∧(a≤a'∧a'≤a+16 * ((j+1:Nat):Int)) ∧
     f73.l0 (n+5) m bs.length (its .u8 bs) a1 s1 (j:Int) (acc++[x]).length (fls .f32 (acc++[x])) str=some (bs.length,its .u8 bs,a',sd',ys.length,fls .f32 ys):=by
    intro x a1 s1 hx h2 h3
    obtain ⟨ys,a',sd',hy,hyw,ha,e⟩:=ih m a1 s1 (acc++[x]) (by omega) (by omega) (by simp;omega) (by omega) (by
     intro y hy;simp only[List.mem_append,List.mem_singleton] at hy;rcases hy with hy | rfl
     ·exact hw y hy
     ·exact hx)
    exact ⟨ys,a',sd',by simp at hy;omega,hyw,by omega,e⟩
   simp only[br_t]
   cases str
   ·obtain ⟨x,a1,s1,hx,ha,e⟩:=s_plain (n+1) hb h0 (by omega) sd
    simp only[br_f,e,bd_s,push_ok (show acc.length<2147483648 by omega),gd_t,push_fls]
    rw[show acc.length+1=(acc++[x]).length by simp]
    exact key x a1 s1 hx.w32 (by omega) (by omega)
   ·obtain ⟨x,a1,s1,hx,ha,e⟩:=s_float n hb h0 (by omega) sd
    simp only[br_t,e,bd_s,push_ok (show acc.length<2147483648 by omega),gd_t,push_fls]
    rw[show acc.length+1=(acc++[x]).length by simp]
    exact key x a1 s1 hx (by omega) (by omega)
theorem s_floats (n:Nat) {bs:List Int} (hb:Bytes bs) {a:Int} (h0:0≤a) (j:Nat) (h1:a+16 * (j:Int)≤1125899906841000) (hj:j≤2147483647) (hn:j<n) (sd:Int) :
  ∃ ys a' sd',ys.length=j∧(∀ x∈ys,W32 x)∧(a≤a'∧a'≤a+2+16 * (j:Int))∧f73 (n+6) bs.length (its .u8 bs) a sd (j:Int)=some (ys.length,fls .f32 ys,bs.length,its .u8 bs,a',sd'):=by
 obtain ⟨b,a1,s1,ha1,e1⟩:=s_one (n+2) hb h0 (by omega) sd 4
 obtain ⟨ys,a2,s2,hy,hw,ha2,e2⟩:=s_floats_loop n hb b j (n+5) a1 s1 [] (by omega) (by omega) (by simp;omega) (by omega) (by simp)
 rw[f73,e1]
 refine ⟨ys,a2,s2,by simpa using hy,hw,by omega,?_⟩
 have e2:f73.l0 (n+5) (n+5) bs.length (its .u8 bs) a1 s1 (j:Int) 0 (reps 0 [(T.flt FloatKind.f32 0)]) b=some (bs.length,its .u8 bs,a2,s2,ys.length,fls .f32 ys):=e2
 simp only[bd_s,e2]
theorem s_r8samples (n:Nat) {bs:List Int} (hb:Bytes bs) (k:Nat) (hk:k≤1000) (hn:k<n):∃ xs,xs.length≤k∧(∀ x∈xs,W32 x)∧f21 (n+7) bs.length (its .u8 bs) (k:Int)=some (xs.length,fls .f32 xs):=by
 obtain ⟨r,a1,s1,hr,ha1,e1⟩:=s_pick (n+4) hb (a:=0) (by omega) (by omega) 0 ((k:Int)+1)
 obtain ⟨j,rfl⟩:=Int.eq_ofNat_of_zero_le hr.1
 have hj:j≤k:=by omega
 obtain ⟨ys,a2,s2,hy,hw,ha2,e2⟩:=s_floats n hb (a:=a1) (by omega) j (by omega) (by omega) (by omega) s1
 rw[f21,s_from,show IntKind.i64.wrap ((k:Int)+1)=(k:Int)+1 by rw[wrap64] <;>omega]
 simp only[bd_s,e1,e2]
 exact ⟨ys,by omega,hw,rfl⟩
theorem l_long (n:Nat) (bs cs:List Int):f12 (n+1) bs.length (its .u8 bs) cs.length (its .u8 cs)=some (decide (48<bs.length∨48<cs.length)):=by
 rw[f12]
 by_cases h:48<bs.length
 ·rw[decide_eq_true (show (bs.length:Int)>48 by omega),decide_eq_true (Or.inl h)];rfl
 ·rw[decide_eq_false (show ¬ (bs.length:Int)>48 by omega),br_f]
  congr 1
  simp[h];omega
theorem l_at (n:Nat) {bs:List Int} (hb:Bytes bs) {i k:Int} (hi:0≤i) (hk:1≤k):∃ r,(0≤r∧r<k)∧f14 (n+1) bs.length (its .u8 bs) i k=some r:=by
 rw[f14]
 by_cases h:k≤1
 ·rw[decide_eq_true h];exact ⟨0,by omega,rfl⟩
 rw[decide_eq_false h]
 by_cases h2:i≥(bs.length:Int)
 ·rw[decide_eq_true h2];exact ⟨0,by omega,rfl⟩
 rw[decide_eq_false h2]
 obtain ⟨i,rfl⟩:=Int.eq_ofNat_of_zero_le hi
 have hi:i<bs.length:=by omega
 have hr:=hb (bs[i]) (List.getElem_mem _)
 have hk0:(!decide (k=0))=true:=by simp;omega
 simp only[br_f,in_dec hi,Int.toNat_natCast,okAt_its hi,Bool.and_self,gd_t,iAt_its,hk0]
 rw[show bs.getD i 0=bs[i] by simp[List.getD,hi],show IntKind.i64.wrap bs[i]=bs[i] by rw[wrap64] <;>omega]
 refine ⟨_,?_,rfl⟩
 rw[Int.tmod_eq_emod_of_nonneg (by omega)]
 have:=Int.emod_nonneg bs[i] (show k≠0 by omega)
 have:=Int.emod_lt_of_pos bs[i] (show 0<k by omega)
 omega
theorem i_same (n:Nat) {x y:Nat} (hx:W32 x) (hy:W32 y):f18 (n+2) x y=some (x==y):=by
 rw[f18]
 simp only[fne_nan]
 cases hn:isNaN .f32 x
 ·cases hm:isNaN .f32 y
  ·simp only[br_f]
   have e1:∀ z,isNaN .f32 z=false→xF32bits (n+1) z=some (z:Int):=fun z hz=>by simp[xF32bits,hz]
   simp only[e1 x hn,e1 y hm,bd_s,Option.some.injEq]
   rw[Bool.eq_iff_iff];simp;constructor <;>omega
  ·simp only[br_f,br_t]
   have:x≠y:=fun e=>by rw[e,hm] at hn;cases hn
   simp[this]
 ·cases hm:isNaN .f32 y
  ·simp only[br_f,br_t]
   have:x≠y:=fun e=>by rw[e,hm] at hn;cases hn
   simp[this]
  ·simp only[br_t]
   have:x=y:=by rw[← hx.2,← hy.2,canon_nan hn,canon_nan hm]
   simp[this]
theorem l_same_loop (n:Nat):∀ (zs ys p q:List Nat) (m:Nat),ys.length=zs.length→p.length=q.length→(∀ x∈zs,W32 x)→(∀ x∈ys,W32 x)→p.length+zs.length≤1048576→zs.length<m →
  f25.l0 (n+2) m (p++zs).length (fls .f32 (p++zs)) (q++ys).length (fls .f32 (q++ys)) (p.length:Int)=some (if zs=ys then .inr () else .inl false):=by
 intro zs
 induction zs with
 | nil =>
   intro ys p q m hl hpq _ _ _ hm
   obtain ⟨m,rfl⟩:∃ k,m=k+1:=⟨m - 1,by omega⟩
   obtain rfl:ys=[]:=List.length_eq_zero_iff.1 (by simpa using hl)
   rw[f25.l0,lt_end]
   rfl
 | cons z zs ih =>
   intro ys p q m hl hpq hz hy hb hm
   obtain ⟨m,rfl⟩:∃ k,m=k+1:=⟨m - 1,by omega⟩
   cases ys with
   | nil=>simp at hl
   | cons y ys =>
     rw[f25.l0,lt_mid,in_mid]
     simp only[hpq,in_mid,toNat_len,okAt_mid]
     rw[← hpq]
     simp only[okAt_mid,fAt_mid,Bool.and_self,gd_t,br_t]
     rw[hpq]
     simp only[fAt_mid]
     rw[i_same n (hz z (by simp)) (hy y (by simp)),← hpq]
     simp only[bd_s,br_not]
     cases h:z==y
     ·simp only[beq_eq_false_iff_ne,ne_eq] at h
      simp[br_f,h]
     ·simp only[beq_iff_eq] at h
      subst h
      rw[br_t,wrap_len (z:=z) (by simp at hb;omega)]
      have:=ih ys (p++[z]) (q++[z]) m (by simpa using hl) (by simp[hpq]) (fun x hx=>hz x (by simp[hx])) (fun x hx=>hy x (by simp[hx])) (by simp at hb ⊢;omega) (by simp at hm;omega)
      simpa using this
theorem l_same (n:Nat) (xs ys:List Nat) (hx:∀ x∈xs,W32 x) (hy:∀ x∈ys,W32 x) (hl:xs.length≤1048576) (hn:xs.length<n):f25 (n+3) xs.length (fls .f32 xs) ys.length (fls .f32 ys)=some (decide (xs=ys)):=by
 rw[f25]
 by_cases h:ys.length=xs.length
 ·rw[show (((xs.length:Nat):Int) != ((ys.length:Nat):Int))=false by simp[h],br_f]
  have:=l_same_loop n xs ys [] [] (n+2) h rfl hx hy (by simpa using hl) (by omega)
  simp only[List.nil_append,List.length_nil] at this
  rw[show ((0:Nat):Int)=0 from rfl] at this
  rw[this,bd_s]
  by_cases e:xs=ys
  ·rw[if_pos e,decide_eq_true e];rfl
  ·rw[if_neg e,decide_eq_false e];rfl
 ·rw[show (((xs.length:Nat):Int) != ((ys.length:Nat):Int))=true by simp;omega,decide_eq_false (fun e=>h (by rw[e]))]
  rfl
theorem i_few (n k:Nat) (l:List T):f66 (n+1) k l=some (decide ((k:Int)≤256)):=by rw[f66]
theorem i_in (n:Nat) (a b c:Int):f67 (n+1) a b c=some (decide (b≤a∧a≤c)):=by
 rw[f67]
 by_cases h:b≤a <;>simp[br,h]
theorem i_sub (n:Nat) {x:Nat} (h:x<4294967296):f189 (n+1) x=some (sub32 x):=by
 rw[f189,← sub_key h]
 cases fne .f32 x 0 <;>cases flt .f32 x 8388608 <;>rfl
theorem i_flush (n:Nat) {x:Nat} (h:W32 x):f169 (n+2) x=some (flushM x):=by
 rw[f169,i_sub n h.1,bd_s,br_not]
 have hx:=h.1
 cases hs:sub32 x
 ·rw[br_f]
  unfold sub32 at hs
  unfold flushM
  simp at hs
  split
  ·congr 1;omega
  ·rfl
 ·have hs' :=hs
  unfold sub32 at hs
  simp at hs
  have hn:isNaN .f32 x=false:=by rw[nan32];simp;omega
  obtain ⟨y,e1,e2⟩:=copy_zero n hx hn
  rw[br_t,fltToFlt_wide]
  simp only[bd_s,e1,e2]
  unfold flushM
  rw[if_pos hs.2]
theorem i_flushedq (n:Nat) {x:Nat} (b:Bool) (h:W32 x):f176 (n+3) x b=some (fl? b x):=by
 rw[f176]
 cases b
 ·rfl
 ·simp only[br_t,i_flush n h,bd_s];rfl
theorem i_fstep (n:Nat) (f:Filt) (form:Int) (b:Bool) (m:Mem) (x:Nat) (hm:WMem m) (hx:W32 x) :
  f142 (n+4) f.1 f.2.1 f.2.2.1 f.2.2.2.1 f.2.2.2.2 form b m.1 m.2.1 m.2.2.1 m.2.2.2 x =
   some ((fstep f form b m x).1,(fstep f form b m x).2.1,(fstep f form b m x).2.2.1,(fstep f form b m x).2.2.2.1,(fstep f form b m x).2.2.2.2):=by
 obtain ⟨m1,m2,m3,m4⟩:=hm
 rw[f142]
 unfold fstep
 by_cases h0:form=0
 ·simp only[h0,beq_self_eq_true,br_t,if_true,i_flushedq n b (w32_fsub _ _),bd_s,i_flushedq n b hx,i_flushedq n b m1,i_flushedq n b m3,i_flushedq n b (w32_fl? (b:=b) (w32_fsub _ _))]
 ·have h0':(form==0)=false:=by simp[h0]
  simp only[h0',br_f,if_neg h0]
  by_cases h1:form=1
  ·simp only[h1,beq_self_eq_true,br_t,if_true,i_flushedq n b (w32_fsub _ _),i_flushedq n b (w32_fadd _ _),i_flushedq n b w32_zero,bd_s]
  ·have h1':(form==1)=false:=by simp[h1]
   simp only[h1',br_f,if_neg h1,i_flushedq n b (w32_fsub _ _),bd_s,i_flushedq n b (w32_fadd _ _),i_flushedq n b (w32_fl? (b:=b) (w32_fsub _ _)),i_flushedq n b m1,i_flushedq n b w32_zero]
theorem i_frun_loop (n:Nat) (f:Filt) (form:Int) (b:Bool) (N:Nat) (cs:List T) (u:Mem):∀ (zs p acc:List Nat) (mm:Mem) (m:Nat),(∀ x∈zs,W32 x)→WMem mm→acc.length+zs.length<1048576→p.length+zs.length<1048576→zs.length<m →
  f96.l0 (n+4) m form b N cs f.1 f.2.1 f.2.2.1 f.2.2.2.1 f.2.2.2.2 mm.1 mm.2.1 mm.2.2.1 mm.2.2.2 u.1 u.2.1 u.2.2.1 u.2.2.2 acc.length (fls .f32 acc) (p++zs).length (fls .f32 (p++zs)) ((p++zs).length:Int) (p.length:Int) =
   some ((scan (fstep f form b) mm zs).2.1,(scan (fstep f form b) mm zs).2.2.1,(scan (fstep f form b) mm zs).2.2.2.1,(scan (fstep f form b) mm zs).2.2.2.2,u.1,u.2.1,u.2.2.1,u.2.2.2,(acc++(scan (fstep f form b) mm zs).1).length,fls .f32 (acc++(scan (fstep f form b) mm zs).1)):=by
 intro zs
 induction zs with
 | nil =>
   intro p acc mm m _ _ _ _ hm
   obtain ⟨m,rfl⟩:∃ k,m=k+1:=⟨m - 1,by omega⟩
   rw[f96.l0,lt_end]
   simp[br_f,scan]
 | cons z zs ih =>
   intro p acc mm m hz hmm ha hp hm
   obtain ⟨m,rfl⟩:∃ k,m=k+1:=⟨m - 1,by omega⟩
   have hp':p.length<1048576:=by simp at hp;omega
   have ha':acc.length<1048576:=by simp at ha;omega
   have hw:=hz z (by simp)
   rw[f96.l0,lt_mid,in_mid,toNat_len,okAt_mid,fAt_mid]
   simp only[br_t,gd_t,Bool.and_self,i_fstep n f form b mm z hmm hw,bd_s,push_ok (show acc.length<2147483648 by omega),push_fls,wrap_len (z:=z) (show p.length<4611686018427387904 by omega)]
   have:=ih (p++[z]) (acc++[(fstep f form b mm z).1]) (fstep f form b mm z).2 m (fun x hx=>hz x (by simp[hx])) (fstep_w32 hmm hw).2 (by simp at ha ⊢;omega) (by simp at hp ⊢;omega) (by simp at hm;omega)
   simpa [scan] using this
theorem i_frun (n:Nat) (f:Filt) (form:Int) (b:Bool) (mm:Mem) (xs:List Nat) (hx:∀ x∈xs,W32 x) (hm:WMem mm) (hl:xs.length<1048576) (hn:xs.length<n) :
  f96 (n+5) f.1 f.2.1 f.2.2.1 f.2.2.2.1 f.2.2.2.2 form b mm.1 mm.2.1 mm.2.2.1 mm.2.2.2 xs.length (fls .f32 xs) =
   some ((scan (fstep f form b) mm xs).1.length,fls .f32 (scan (fstep f form b) mm xs).1,(scan (fstep f form b) mm xs).2.1,(scan (fstep f form b) mm xs).2.2.1,(scan (fstep f form b) mm xs).2.2.2.1,(scan (fstep f form b) mm xs).2.2.2.2):=by
 rw[f96]
 have e:=i_frun_loop n f form b xs.length (fls .f32 xs) (0,0,0,0) xs [] [] mm (n+4) hx hm (by simpa using hl) (by simpa using hl) (by omega)
 have e:f96.l0 (n+4) (n+4) form b xs.length (fls .f32 xs) f.1 f.2.1 f.2.2.1 f.2.2.2.1 f.2.2.2.2 mm.1 mm.2.1 mm.2.2.1 mm.2.2.2 0 0 0 0 0 [] xs.length (fls .f32 xs) (xs.length:Int) 0=_:=e
 rw[e];rfl
theorem i_form (n:Nat) (form:Int):f95 (n+2) form=some (decide (0≤form∧form≤2)):=by rw[f95,i_in];rfl
theorem i_runfilter (n:Nat) (f:Filt) (form:Int) (hf:0≤form∧form≤2) (b:Bool) (mm:Mem) (xs:List Nat) (hx:∀ x∈xs,W32 x) (hm:WMem mm) (hl:xs.length≤256) (hn:xs.length<n) :
  f45 (n+6) f.1 f.2.1 f.2.2.1 f.2.2.2.1 f.2.2.2.2 form b mm.1 mm.2.1 mm.2.2.1 mm.2.2.2 xs.length (fls .f32 xs) =
   some ((scan (fstep f form b) mm xs).1.length,fls .f32 (scan (fstep f form b) mm xs).1,(scan (fstep f form b) mm xs).2.1,(scan (fstep f form b) mm xs).2.2.1,(scan (fstep f form b) mm xs).2.2.2.1,(scan (fstep f form b) mm xs).2.2.2.2,true):=by
 rw[f45,i_form,i_few,decide_eq_true hf,decide_eq_true (show (xs.length:Int)≤256 by omega)]
 simp only[bd_s,br_not,br_t,i_frun n f form b mm xs hx hm (by omega) hn]
theorem i_samemem (n:Nat) (a b:Mem) (ha:WMem a) (hb:WMem b):f46 (n+3) a.1 a.2.1 a.2.2.1 a.2.2.2 b.1 b.2.1 b.2.2.1 b.2.2.2=some (decide (a=b)):=by
 obtain ⟨a1,a2,a3,a4⟩:=ha
 obtain ⟨b1,b2,b3,b4⟩:=hb
 obtain ⟨x1,x2,x3,x4⟩:=a
 obtain ⟨y1,y2,y3,y4⟩:=b
 rw[f46]
 simp only at a1 a2 a3 a4 b1 b2 b3 b4 ⊢
 simp only[i_same n a1 b1,i_same n a2 b2,i_same n a3 b3,i_same n a4 b4,bd_s]
 cases c1:x1==y1 <;>cases c2:x2==y2 <;>cases c3:x3==y3 <;>simp_all [br] <;>rfl
theorem s_fnumber (n:Nat) {bs:List Int} (hb:Bytes bs) {a:Int} (h0:0≤a) (h1:a≤1125899906842500) (sd:Int) :
  ∃ x a' sd',W32 x∧(a≤a'∧a'≤a+20)∧f141 (n+6) bs.length (its .u8 bs) a sd=some (x,bs.length,its .u8 bs,a',sd'):=by
 obtain ⟨b,a1,s1,ha1,e1⟩:=s_one (n+2) hb h0 (by omega) sd 8
 rw[f141,e1]
 simp only[bd_s]
 cases b
 ·obtain ⟨c,a2,s2,ha2,e2⟩:=s_one (n+2) hb (a:=a1) (by omega) (by omega) s1 3
  simp only[br_f,e2,bd_s]
  cases c
  ·obtain ⟨r,a3,s3,hr,ha3,e3⟩:=s_pick (n+3) hb (a:=a2) (by omega) (by omega) s2 33
   simp only[br_f,e3,bd_s]
   exact ⟨_,a3,s3,w32_fdiv _ _,by omega,rfl⟩
  ·exact ⟨0,a2,s2,w32_zero,by omega,rfl⟩
 ·obtain ⟨x,a2,s2,hx,ha2,e2⟩:=s_float n hb (a:=a1) (by omega) (by omega) s1
  simp only[br_t,e2,bd_s]
  exact ⟨x,a2,s2,hx,by omega,rfl⟩
theorem s_filter (n:Nat) {bs:List Int} (hb:Bytes bs) {a:Int} (h0:0≤a) (h1:a≤1125899906842000) (sd:Int) :
  ∃ (f:Filt) (a' sd':Int),(W32 f.1∧W32 f.2.1∧W32 f.2.2.1∧W32 f.2.2.2.1∧W32 f.2.2.2.2)∧(a≤a'∧a'≤a+200)∧f93 (n+7) bs.length (its .u8 bs) a sd=some (f.1,f.2.1,f.2.2.1,f.2.2.2.1,f.2.2.2.2,bs.length,its .u8 bs,a',sd'):=by
 obtain ⟨x1,a1,s1,w1,ha1,e1⟩:=s_fnumber n hb h0 (by omega) sd
 obtain ⟨x2,a2,s2,w2,ha2,e2⟩:=s_fnumber n hb (a:=a1) (by omega) (by omega) s1
 obtain ⟨x3,a3,s3,w3,ha3,e3⟩:=s_fnumber n hb (a:=a2) (by omega) (by omega) s2
 obtain ⟨r4,a4,s4,-,ha4,e4⟩:=s_pick (n+4) hb (a:=a3) (by omega) (by omega) s3 15
 obtain ⟨r5,a5,s5,-,ha5,e5⟩:=s_pick (n+4) hb (a:=a4) (by omega) (by omega) s4 7
 obtain ⟨b6,a6,s6,ha6,e6⟩:=s_one (n+3) hb (a:=a5) (by omega) (by omega) s5 4
 rw[f93,e1]
 simp only[bd_s,e2,e3,e4,e5,e6]
 cases b6
 ·obtain ⟨b7,a7,s7,ha7,e7⟩:=s_one (n+3) hb (a:=a6) (by omega) (by omega) s6 4
  simp only[br_f,e7,bd_s]
  cases b7
  ·exact ⟨(x1,x2,x3,_,_),a7,s7,⟨w1,w2,w3,w32_fdiv _ _,w32_fdiv _ _⟩,by omega,rfl⟩
  ·obtain ⟨x8,a8,s8,w8,ha8,e8⟩:=s_fnumber n hb (a:=a7) (by omega) (by omega) s7
   simp only[br_t,e8,bd_s]
   exact ⟨(x1,x2,x3,_,x8),a8,s8,⟨w1,w2,w3,w32_fdiv _ _,w8⟩,by omega,rfl⟩
 ·obtain ⟨x7,a7,s7,w7,ha7,e7⟩:=s_fnumber n hb (a:=a6) (by omega) (by omega) s6
  obtain ⟨b8,a8,s8,ha8,e8⟩:=s_one (n+3) hb (a:=a7) (by omega) (by omega) s7 4
  simp only[br_t,e7,e8,bd_s]
  cases b8
  ·exact ⟨(x1,x2,x3,x7,_),a8,s8,⟨w1,w2,w3,w7,w32_fdiv _ _⟩,by omega,rfl⟩
  ·obtain ⟨x9,a9,s9,w9,ha9,e9⟩:=s_fnumber n hb (a:=a8) (by omega) (by omega) s8
   simp only[br_t,e9,bd_s]
   exact ⟨(x1,x2,x3,x7,x9),a9,s9,⟨w1,w2,w3,w7,w9⟩,by omega,rfl⟩
theorem s_r8filter (n:Nat) {bs:List Int} (hb:Bytes bs):∃ (f:Filt),(W32 f.1∧W32 f.2.1∧W32 f.2.2.1∧W32 f.2.2.2.1∧W32 f.2.2.2.2)∧f42 (n+8) bs.length (its .u8 bs)=some (f.1,f.2.1,f.2.2.1,f.2.2.2.1,f.2.2.2.2):=by
 obtain ⟨f,a1,s1,hw,ha,e⟩:=s_filter n hb (a:=0) (by omega) (by omega) 0
 rw[f42,s_from]
 simp only[bd_s,e]
 exact ⟨f,hw,rfl⟩
theorem s_memory (n:Nat) {bs:List Int} (hb:Bytes bs) {a:Int} (h0:0≤a) (h1:a≤1125899906842000) (sd:Int) :
  ∃ (m:Mem) (a' sd':Int),WMem m∧(a≤a'∧a'≤a+100)∧f94 (n+6) bs.length (its .u8 bs) a sd=some (m.1,m.2.1,m.2.2.1,m.2.2.2,bs.length,its .u8 bs,a',sd'):=by
 obtain ⟨b,a1,s1,ha1,e1⟩:=s_one (n+2) hb h0 (by omega) sd 3
 rw[f94,e1]
 simp only[bd_s]
 cases b
 ·obtain ⟨x2,a2,s2,w2,ha2,e2⟩:=s_float n hb (a:=a1) (by omega) (by omega) s1
  obtain ⟨x3,a3,s3,w3,ha3,e3⟩:=s_float n hb (a:=a2) (by omega) (by omega) s2
  obtain ⟨x4,a4,s4,w4,ha4,e4⟩:=s_float n hb (a:=a3) (by omega) (by omega) s3
  obtain ⟨x5,a5,s5,w5,ha5,e5⟩:=s_float n hb (a:=a4) (by omega) (by omega) s4
  simp only[br_f,e2,e3,e4,e5,bd_s]
  exact ⟨(x2,x3,x4,x5),a5,s5,⟨w2,w3,w4,w5⟩,by omega,rfl⟩
 ·exact ⟨(0,0,0,0),a1,s1,⟨w32_zero,w32_zero,w32_zero,w32_zero⟩,by omega,rfl⟩
theorem s_r8memory (n:Nat) {bs:List Int} (hb:Bytes bs):∃ (m:Mem),WMem m∧f43 (n+7) bs.length (its .u8 bs)=some (m.1,m.2.1,m.2.2.1,m.2.2.2):=by
 obtain ⟨m,a1,s1,hw,ha,e⟩:=s_memory n hb (a:=0) (by omega) (by omega) 0
 rw[f43,s_from]
 simp only[bd_s,e]
 exact ⟨m,hw,rfl⟩
theorem i_copy (n:Nat) (xs:List Nat) (h:xs.length≤2147483648):f84 (n+1) xs.length (fls .f32 xs)=some (xs.length,fls .f32 xs):=by
 rw[f84,Nat.zero_add,le_ble h];rfl
def memC (m:Mem):List T:=[.flt .f32 m.1,.flt .f32 m.2.1,.flt .f32 m.2.2.1,.flt .f32 m.2.2.2]
def filC (f:Filt):List T:=[.flt .f32 f.1,.flt .f32 f.2.1,.flt .f32 f.2.2.1,.flt .f32 f.2.2.2.1,.flt .f32 f.2.2.2.2]
theorem i_two (n:Nat) (f g:Filt) (form:Int) (hf:0≤form∧form≤2) (b:Bool) (mm kk:Mem) (xs:List Nat) (hx:∀ x∈xs,W32 x) (wm:WMem mm) (wk:WMem kk) (hl:xs.length≤256) (hn:xs.length<n) :
  f44 (n+9) 2 (filC f++filC g) form b 2 (memC mm++memC kk) xs.length (fls .f32 xs) =
   some ((scan (fstep g form b) kk (scan (fstep f form b) mm xs).1).1.length,fls .f32 (scan (fstep g form b) kk (scan (fstep f form b) mm xs).1).1,2,memC (scan (fstep f form b) mm xs).2++memC (scan (fstep g form b) kk (scan (fstep f form b) mm xs).1).2,true):=by
 obtain ⟨w1,wm1⟩:=scan_inv (f:=fstep f form b) (P:=WMem) (Q:=W32) (S:=W32) (fun s x hs hx=>fstep_w32 hs hx) xs mm wm hx
 have l1:=scan_length (fstep f form b) mm xs
 have r1:=i_frun (n+3) f form b mm xs hx wm (by omega) (by omega)
 have r2:=i_frun (n+3) g form b kk (scan (fstep f form b) mm xs).1 w1 wk (by omega) (by omega)
 have e:f44.l0 (n+8) (n+8) 2 (filC f++filC g) form b 2 (memC mm++memC kk) xs.length (fls .f32 xs) 0 [] 2 (filC f++filC g) 2 0 =
   some ((scan (fstep g form b) kk (scan (fstep f form b) mm xs).1).1.length,fls .f32 (scan (fstep g form b) kk (scan (fstep f form b) mm xs).1).1,2,memC (scan (fstep f form b) mm xs).2++memC (scan (fstep g form b) kk (scan (fstep f form b) mm xs).1).2):=by
  have a1:f44.l0 (n+8) (n+8) 2 (filC f++filC g) form b 2 (memC mm++memC kk) xs.length (fls .f32 xs) 0 [] 2 (filC f++filC g) 2 0 =
    bd (f96 (n+8) f.1 f.2.1 f.2.2.1 f.2.2.2.1 f.2.2.2.2 form b mm.1 mm.2.1 mm.2.2.1 mm.2.2.2 xs.length (fls .f32 xs)) fun r =>
     f44.l0 (n+8) (n+7) 2 (filC f++filC g) form b 2 (memC mm++memC kk) r.1 r.2.1 1 [.flt .f32 r.2.2.1,.flt .f32 r.2.2.2.1,.flt .f32 r.2.2.2.2.1,.flt .f32 r.2.2.2.2.2] 2 (filC f++filC g) 2 1:=rfl
  have a2:∀ k l ms,f44.l0 (n+8) (n+7) 2 (filC f++filC g) form b 2 (memC mm++memC kk) k l 1 (memC ms) 2 (filC f++filC g) 2 1 =
    bd (f96 (n+8) g.1 g.2.1 g.2.2.1 g.2.2.2.1 g.2.2.2.2 form b kk.1 kk.2.1 kk.2.2.1 kk.2.2.2 k l) fun r =>
     f44.l0 (n+8) (n+6) 2 (filC f++filC g) form b 2 (memC mm++memC kk) r.1 r.2.1 2 (memC ms++[.flt .f32 r.2.2.1,.flt .f32 r.2.2.2.1,.flt .f32 r.2.2.2.2.1,.flt .f32 r.2.2.2.2.2]) 2 (filC f++filC g) 2 2:=fun _ _ _=>rfl
  have a3:∀ k l ms,f44.l0 (n+8) (n+6) 2 (filC f++filC g) form b 2 (memC mm++memC kk) k l 2 ms 2 (filC f++filC g) 2 2=some (k,l,2,ms):=fun _ _ _=>rfl
  rw[a1,r1]
  simp only[bd_s]
  have:=a2 (scan (fstep f form b) mm xs).1.length (fls .f32 (scan (fstep f form b) mm xs).1) (scan (fstep f form b) mm xs).2
  rw[r2] at this
  simp only[bd_s,a3] at this
  exact this
 have c:=i_copy (n+7) xs (by omega)
 rw[f44,i_form,i_few,decide_eq_true hf,decide_eq_true (show (xs.length:Int)≤256 by omega)]
 simp only[bd_s,br_not,br_t,c]
 have e':f44.l0 (n+8) (n+8) 2 (filC f++filC g) form b 2 (memC mm++memC kk) xs.length (fls .f32 xs) 0 [] 2 (filC f++filC g) ((2:Nat):Int) 0=_:=e
 rw[e']
 rfl
theorem turned_loop (n:Nat) (xs:List Nat) (hl:xs.length<1048576):∀ (j m:Nat) (acc:List Nat),j≤xs.length→acc.length+j=xs.length→j<m →
  f49.l0 n m xs.length (fls .f32 xs) acc.length (fls .f32 acc) ((j:Int) - 1)=some ((acc++(xs.take j).reverse).length,fls .f32 (acc++(xs.take j).reverse)):=by
 intro j
 induction j with
 | zero =>
   intro m acc _ _ hm
   obtain ⟨m,rfl⟩:∃ k,m=k+1:=⟨m - 1,by omega⟩
   rw[f49.l0,show decide (((0:Nat):Int) - 1≥0)=false by decide]
   simp[br_f]
 | succ j ih =>
   intro m acc hj ha hm
   obtain ⟨m,rfl⟩:∃ k,m=k+1:=⟨m - 1,by omega⟩
   have h:j<xs.length:=by omega
   rw[f49.l0,show (((j+1:Nat):Int) - 1)=(j:Int) by omega,decide_eq_true (show (j:Int)≥0 by omega),in_dec h,Int.toNat_natCast,okAt_fls h,fAt_fls]
   simp only[br_t,Bool.and_self,gd_t,push_ok (show acc.length<2147483648 by omega),push_fls]
   rw[show IntKind.i64.wrap ((j:Int) - 1)=(j:Int) - 1 by rw[wrap64] <;>omega]
   have:=ih m (acc++[xs.getD j 0]) (by omega) (by simp;omega) (by omega)
   have ht:xs.take (j+1)=xs.take j++[xs.getD j 0]:=by rw[List.take_succ];simp[List.getD,h]
   rw[ht]
   simpa using this
theorem l_turned (n:Nat) (xs:List Nat) (hl:xs.length<1048576) (hn:xs.length<n):f49 (n+1) xs.length (fls .f32 xs)=some (xs.reverse.length,fls .f32 xs.reverse):=by
 have e:=turned_loop n xs hl xs.length n [] (by omega) (by simp) hn
 have e:f49.l0 n n xs.length (fls .f32 xs) 0 (reps 0 [T.flt .f32 0]) ((xs.length:Int) - 1)=_:=e
 rw[f49,show IntKind.i64.wrap ((xs.length:Int) - 1)=(xs.length:Int) - 1 by rw[wrap64] <;>omega,e]
 simp[bd_s]
theorem fls_rev (xs:List Nat):(fls .f32 xs).reverse=fls .f32 xs.reverse:=by simp[fls,List.map_reverse]
theorem i_both (n:Nat) (f:Filt) (xs:List Nat) (hx:∀ x∈xs,W32 x) (hl:xs.length≤256) (hn:xs.length<n) :
  f48 (n+9) f.1 f.2.1 f.2.2.1 f.2.2.2.1 f.2.2.2.2 xs.length (fls .f32 xs) =
   some ((scan (fstep f 0 false) (0,0,0,0) (scan (fstep f 0 false) (0,0,0,0) xs).1.reverse).1.reverse.length,fls .f32 (scan (fstep f 0 false) (0,0,0,0) (scan (fstep f 0 false) (0,0,0,0) xs).1.reverse).1.reverse,true):=by
 have w0:WMem (0,0,0,0):=⟨w32_zero,w32_zero,w32_zero,w32_zero⟩
 obtain ⟨w1,wm1⟩:=scan_inv (f:=fstep f 0 false) (P:=WMem) (Q:=W32) (S:=W32) (fun s x hs hx=>fstep_w32 hs hx) xs (0,0,0,0) w0 hx
 have l1:=scan_length (fstep f 0 false) (0,0,0,0) xs
 obtain ⟨ys,hys⟩:∃ ys,ys=(scan (fstep f 0 false) (0,0,0,0) xs).1.reverse:=⟨_,rfl⟩
 have wy:∀ x∈ys,W32 x:=fun x hx=>w1 x (by rw[hys] at hx;simpa using hx)
 have ly:ys.length=xs.length:=by rw[hys];simp[l1]
 have l2:=scan_length (fstep f 0 false) (0,0,0,0) ys
 have r1:=i_frun (n+3) f 0 false (0,0,0,0) xs hx w0 (by omega) (by omega)
 have r2:=i_frun (n+3) f 0 false (0,0,0,0) ys wy w0 (by omega) (by omega)
 rw[← hys]
 have c:=i_copy (n+7) xs (by omega)
 rw[f48,i_few,decide_eq_true (show (xs.length:Int)≤256 by omega)]
 simp only[bd_s,br_not,br_t,c]
 have v1:∀ (k:Nat) l,k≤256→xReverse (n+8) k l=some (k,l.reverse):=by
  intro k l hk
  show (if k<4611686018427387904 then some (k,l.reverse) else none)=_
  rw[if_pos (by omega)]
 have a1:∀ m k l (i:Int),f48.l0 (n+8) (m+1) f.1 f.2.1 f.2.2.1 f.2.2.2.1 f.2.2.2.2 k l i=br (decide (i<2)) (bd (f96 (n+8) f.1 f.2.1 f.2.2.1 f.2.2.2.1 f.2.2.2.2 0 false 0 0 0 0 k l) fun r =>
   bd (xReverse (n+8) r.1 r.2.1) fun s=>f48.l0 (n+8) m f.1 f.2.1 f.2.2.1 f.2.2.2.1 f.2.2.2.2 s.1 s.2 (IntKind.i64.wrap (i+1))) (some (k,l)):=fun _ _ _ _=>rfl
 rw[show f48.l0 (n+8) (n+8)=f48.l0 (n+8) (n+7+1) from rfl,a1,show f48.l0 (n+8) (n+7)=f48.l0 (n+8) (n+6+1) from rfl]
 have r1:f96 (n+8) f.1 f.2.1 f.2.2.1 f.2.2.2.1 f.2.2.2.2 0 false 0 0 0 0 xs.length (fls .f32 xs)=_:=r1
 have r2:f96 (n+8) f.1 f.2.1 f.2.2.1 f.2.2.2.1 f.2.2.2.2 0 false 0 0 0 0 ys.length (fls .f32 ys)=_:=r2
 have t0:decide ((0:Int)<2)=true:=rfl
 have w1':IntKind.i64.wrap (0+1)=1:=rfl
 simp only[t0,w1',br_t,r1,bd_s,v1 _ _ (show (scan (fstep f 0 false) (0,0,0,0) xs).1.length≤256 by omega),fls_rev,← hys]
 have hyl:(scan (fstep f 0 false) (0,0,0,0) xs).1.length=ys.length:=by omega
 rw[hyl,a1,r2]
 have t1:decide ((1:Int)<2)=true:=rfl
 simp only[t1,br_t,bd_s,v1 _ _ (show (scan (fstep f 0 false) (0,0,0,0) ys).1.length≤256 by omega),fls_rev]
 rw[show f48.l0 (n+8) (n+6)=f48.l0 (n+8) (n+5+1) from rfl,a1]
 have t2:decide (IntKind.i64.wrap (1+1)<2)=false:=rfl
 rw[t2,br_f,bd_s,List.length_reverse]
def imp9:List Nat:=[1065353216,0,0,0,0,0,0,0,0]
theorem w32_imp:∀ x∈imp9,W32 x:=by
 intro x hx
 have:x=1065353216∨x=0:=by simpa [imp9] using hx
 rcases this with rfl | rfl
 ·exact ⟨by decide,by decide⟩
 ·exact w32_zero
theorem i_imp (n:Nat):f82 (n+3) 9=some (9,fls .f32 imp9):=rfl
theorem i_impof (n:Nat) (f:Filt) (form:Int) (hf:0≤form∧form≤2):f47 (n+29) f.1 f.2.1 f.2.2.1 f.2.2.2.1 f.2.2.2.2 form 9 =
  some ((scan (fstep f form false) (0,0,0,0) imp9).1.length,fls .f32 (scan (fstep f form false) (0,0,0,0) imp9).1,true):=by
 have w0:WMem (0,0,0,0):=⟨w32_zero,w32_zero,w32_zero,w32_zero⟩
 have wi:=w32_imp
 have r:=i_frun (n+23) f form false (0,0,0,0) imp9 wi w0 (by decide) (by show 9<_;omega)
 have r:f96 (n+28) f.1 f.2.1 f.2.2.1 f.2.2.2.1 f.2.2.2.2 form false 0 0 0 0 9 (fls .f32 imp9)=_:=r
 have c:f81 (n+28) 9=some true:=rfl
 have d:f82 (n+28) 9=_:=i_imp (n+25)
 rw[f47,i_form,decide_eq_true hf]
 simp only[bd_s,br_not,br_t,c,d,r]
theorem exact_ (cs:List Int) (hc:∀ b∈cs,GoodI .u8 b) (lc:cs.length≤maxLen) (ms:List Int) (hm:∀ b∈ms,GoodI .u8 b) (lm:ms.length≤maxLen):∃ n,f7 n cs.length (its .u8 cs) ms.length (its .u8 ms)=some true:=by
 refine ⟨1000,?_⟩
 suffices h:∀ n,f7 (n+500) cs.length (its .u8 cs) ms.length (its .u8 ms)=some true from h 500
 intro n
 rw[f7,l_long]
 cases hlong:decide (48<cs.length∨48<ms.length)
 case true=>rfl
 obtain ⟨f,-,e1⟩:=s_r8filter (n+491) (bytes_of hc)
 obtain ⟨g,-,e2⟩:=s_r8filter (n+491) (bytes_of hm)
 obtain ⟨mm,wm,e3⟩:=s_r8memory (n+492) (bytes_of hc)
 obtain ⟨kk,wk,e4⟩:=s_r8memory (n+492) (bytes_of hm)
 obtain ⟨xs,hxl,hxw,e5⟩:=s_r8samples (n+492) (bytes_of hm) 10 (by omega) (by omega)
 have e5:f21 (n+499) ms.length (its .u8 ms) 10=some (xs.length,fls .f32 xs):=e5
 obtain ⟨form,hf,e6⟩:=l_at (n+498) (bytes_of hc) (i:=40) (k:=3) (by omega) (by omega)
 have hf':0≤form∧form≤2:=by omega
 have w0:WMem (0,0,0,0):=⟨w32_zero,w32_zero,w32_zero,w32_zero⟩
 have inv:=fun f form b xs mm hm hx=>scan_inv (f:=fstep f form b) (P:=WMem) (Q:=W32) (S:=W32) (fun s x hs hx=>fstep_w32 hs hx) xs mm hm hx
 obtain ⟨w1,wm1⟩:=inv f form true xs mm wm hxw
 obtain ⟨w2,wm2⟩:=inv g form true _ kk wk w1
 have l1:=scan_length (fstep f form true) mm xs
 have l2:=scan_length (fstep g form true) kk (scan (fstep f form true) mm xs).1
 have g1:=i_two (n+490) f g form hf' true mm kk xs hxw wm wk (by omega) (by omega)
 have g2:=i_runfilter (n+493) f form hf' true mm xs hxw wm (by omega) (by omega)
 have g3:=i_runfilter (n+493) g form hf' true kk _ w1 wk (by omega) (by omega)
 have s1:=l_same (n+496) _ _ w2 w2 (by omega) (by omega)
 have s2:=i_samemem (n+496) _ _ wm1 wm1
 have s3:=i_samemem (n+496) _ _ wm2 wm2
 have wi:=w32_imp
 have g4:=i_impof (n+470) f form hf'
 have g5:=i_runfilter (n+493) f form hf' false (0,0,0,0) imp9 wi w0 (by decide) (by show 9<_;omega)
 obtain ⟨w3,-⟩:=inv f form false imp9 (0,0,0,0) w0 wi
 have l3:=scan_length (fstep f form false) (0,0,0,0) imp9
 have l3:(scan (fstep f form false) (0,0,0,0) imp9).1.length=9:=l3
 have s4:=l_same (n+496) _ _ w3 w3 (by omega) (by omega)
 have g6:=i_both (n+490) f xs hxw (by omega) (by omega)
 have g7:=i_runfilter (n+493) f 0 ⟨by omega,by omega⟩ false (0,0,0,0) xs hxw w0 (by omega) (by omega)
 obtain ⟨w4,-⟩:=inv f 0 false xs (0,0,0,0) w0 hxw
 have l4:=scan_length (fstep f 0 false) (0,0,0,0) xs
 obtain ⟨us,hus⟩:∃ us,us=(scan (fstep f 0 false) (0,0,0,0) xs).1:=⟨_,rfl⟩
 rw[← hus] at g6 g7 w4 l4
 have g8:=l_turned (n+498) us (by omega) (by omega)
 have w5:∀ x∈us.reverse,W32 x:=fun x hx=>w4 x (by simpa using hx)
 have l5:us.reverse.length=us.length:=List.length_reverse
 have g9:=i_runfilter (n+493) f 0 ⟨by omega,by omega⟩ false (0,0,0,0) us.reverse w5 w0 (by omega) (by omega)
 obtain ⟨w6,-⟩:=inv f 0 false us.reverse (0,0,0,0) w0 w5
 have l6:=scan_length (fstep f 0 false) (0,0,0,0) us.reverse
 obtain ⟨vs,hvs⟩:∃ vs,vs=(scan (fstep f 0 false) (0,0,0,0) us.reverse).1:=⟨_,rfl⟩
 rw[← hvs] at g6 g9 w6 l6
 have g10:=l_turned (n+498) vs (by omega) (by omega)
 have w7:∀ x∈vs.reverse,W32 x:=fun x hx=>w6 x (by simpa using hx)
 have s5:=l_same (n+496) _ _ w7 w7 (by rw[List.length_reverse];omega) (by rw[List.length_reverse];omega)
 have g1:f44 (n+499) 2 (setN (setN (reps 2 [(T.flt .f32 0),(T.flt .f32 0),(T.flt .f32 0),(T.flt .f32 0),(T.flt .f32 0)]) 0 (filC f)) 5 (filC g)) form true 2 (setN (setN (reps 2 [(T.flt .f32 0),(T.flt .f32 0),(T.flt .f32 0),(T.flt .f32 0)]) 0 (memC mm)) 4 (memC kk)) xs.length (fls .f32 xs)=_:=g1
 obtain ⟨MM,hMM⟩:∃ MM,MM=memC (scan (fstep f form true) mm xs).2++memC (scan (fstep g form true) kk (scan (fstep f form true) mm xs).1).2:=⟨_,rfl⟩
 rw[← hMM] at g1
 simp only[filC,memC] at g1
 have k0:okAt [.flt .f32,.flt .f32,.flt .f32,.flt .f32] MM 0=true:=by rw[hMM];rfl
 have k4:okAt [.flt .f32,.flt .f32,.flt .f32,.flt .f32] MM 4=true:=by rw[hMM];rfl
 have c0:fAt MM 0=(scan (fstep f form true) mm xs).2.1:=by rw[hMM];rfl
 have c1:fAt MM 1=(scan (fstep f form true) mm xs).2.2.1:=by rw[hMM];rfl
 have c2:fAt MM 2=(scan (fstep f form true) mm xs).2.2.2.1:=by rw[hMM];rfl
 have c3:fAt MM 3=(scan (fstep f form true) mm xs).2.2.2.2:=by rw[hMM];rfl
 have c4:fAt MM 4=(scan (fstep g form true) kk (scan (fstep f form true) mm xs).1).2.1:=by rw[hMM];rfl
 have c5:fAt MM 5=(scan (fstep g form true) kk (scan (fstep f form true) mm xs).1).2.2.1:=by rw[hMM];rfl
 have c6:fAt MM 6=(scan (fstep g form true) kk (scan (fstep f form true) mm xs).1).2.2.2.1:=by rw[hMM];rfl
 have c7:fAt MM 7=(scan (fstep g form true) kk (scan (fstep f form true) mm xs).1).2.2.2.2:=by rw[hMM];rfl
 simp only[br_f,bd_s,e1,e2,e3,e4,e5,e6,g1,g2,g3,br_not,br_t,s1,decide_true]
 have q1:(((2:Nat):Int) != 2)=false:=rfl
 have q2:decide ((0:Int)≤0∧(0:Int)<((2:Nat):Int))=true:=rfl
 have q3:decide ((0:Int)≤1∧(1:Int)<((2:Nat):Int))=true:=rfl
 have g5:f45 (n+499) f.1 f.2.1 f.2.2.1 f.2.2.2.1 f.2.2.2.2 form false 0 0 0 0 9 (fls .f32 imp9)=_:=g5
 have sm1:∀ a:Mem,WMem a→f46 (n+499) a.1 a.2.1 a.2.2.1 a.2.2.2 a.1 a.2.1 a.2.2.1 a.2.2.2=some true:=by
  intro a ha
  have:=i_samemem (n+496) a a ha ha
  rw[decide_eq_true rfl] at this
  exact this
 have sl1:∀ l:List Nat,(∀ x∈l,W32 x)→l.length≤256→f25 (n+499) l.length (fls .f32 l) l.length (fls .f32 l)=some true:=by
  intro l h1 h2
  have:=l_same (n+496) l l h1 h1 (by omega) (by omega)
  rw[decide_eq_true rfl] at this
  exact this
 have i9:setN (setN (setN (setN (setN (setN (setN (setN (setN (reps 9 [(T.flt .f32 0)]) 0 [(T.flt .f32 1065353216)]) 1 [(T.flt .f32 0)]) 2 [(T.flt .f32 0)]) 3 [(T.flt .f32 0)]) 4 [(T.flt .f32 0)]) 5 [(T.flt .f32 0)]) 6 [(T.flt .f32 0)]) 7 [(T.flt .f32 0)]) 8 [(T.flt .f32 0)]=fls .f32 imp9:=rfl
 have g4:f47 (n+499) f.1 f.2.1 f.2.2.1 f.2.2.2.1 f.2.2.2.2 form 9=_:=g4
 have g7:f45 (n+499) f.1 f.2.1 f.2.2.1 f.2.2.2.1 f.2.2.2.2 0 false 0 0 0 0 xs.length (fls .f32 xs)=_:=g7
 have g9:f45 (n+499) f.1 f.2.1 f.2.2.1 f.2.2.2.1 f.2.2.2.2 0 false 0 0 0 0 us.reverse.length (fls .f32 us.reverse)=_:=g9
 simp only[q1,q2,q3,br_f,gd_t,k0,k4,c0,c1,c2,c3,c4,c5,c6,c7,sm1 _ wm1,sm1 _ wm2,br_t,bd_s,br_not,g4,i9,g5,g6,g7,← hus,g8,g9,← hvs,g10,sl1 _ w3 (by omega),sl1 _ w7 (by rw[List.length_reverse];omega)]
theorem law7:∀ args,LawArgs E Try.f7.params.toList args→∃ N os,evalFn E N 7 args=some ⟨[⟨false,[.leaf],[.bool true]⟩],os⟩:=by
 intro args h0
 have hp:Try.f7.params.toList=[22,22]:=by kernel_rfl
 rw[hp] at h0
 obtain ⟨ts0,r0,rfl,hw0,h1⟩:=h0.cons_inv (d:=⟨false,1,24,[.sl .own [.leaf]],[.lst 0 []],.slc 5⟩) (by kernel_rfl)
 obtain ⟨n0,cs0,rfl,gl0,hs0⟩:=hw0.slc_inv (e:=5) (d:=⟨false,1,24,[.sl .own [.leaf]],[.lst 0 []],.slc 5⟩) (by kernel_rfl) rfl
 obtain ⟨a0,rfl,rfl,g0⟩:=hs0.ints (k:=.u8) (d:=⟨false,1,1,[.leaf],[.int .u8 0],.int .u8⟩) (by kernel_rfl) rfl
 obtain ⟨ts1,r1,rfl,hw1,h2⟩:=h1.cons_inv (d:=⟨false,1,24,[.sl .own [.leaf]],[.lst 0 []],.slc 5⟩) (by kernel_rfl)
 obtain ⟨n1,cs1,rfl,gl1,hs1⟩:=hw1.slc_inv (e:=5) (d:=⟨false,1,24,[.sl .own [.leaf]],[.lst 0 []],.slc 5⟩) (by kernel_rfl) rfl
 obtain ⟨a1,rfl,rfl,g1⟩:=hs1.ints (k:=.u8) (d:=⟨false,1,1,[.leaf],[.int .u8 0],.int .u8⟩) (by kernel_rfl) rfl
 obtain rfl:=h2.nil_inv
 obtain ⟨N,hN⟩:=exact_ a0 g0 gl0 a1 g1 gl1
 exact ⟨N,_,f7.ok N (a0.length,its .u8 a0,a1.length,its .u8 a1) true hN⟩
end Go.Proofs.Ytdobhipbgpiceaa.D
end
section
namespace Go.Proofs.Ytdobhipbgpiceaa.fnFilterRows
open Go Go.ChangeShapes Go.WideShapes Go.ChangeAt Go.RowKit Go.Desk
set_option linter.unusedVariables false
theorem own:ownKnob Try.prog.godebug=none:=by kernel_rfl
theorem laidOut:laidOutB Try.prog=true:=by kernel_rfl
set_option maxRecDepth 100000 in
theorem lifted (os:Os) (started:os.Started) (H:Type) (enc:TypeId × Value→H) :
  ReturnsInHanded {} Try.checked os 7 .any (Rows.fnFilterRowsSpec.pre6 enc Try.prog Try.f7 Rows.fnFilterRowsRow.domain false) (Rows.fnFilterRowsSpec.post enc Try.prog Try.f7 false true false false):=by
 refine returnsInHanded_of_change (C:=Try.checked) own started (by kernel_rfl) Try.func7
  (ChangeSpec.witness6 (enc:=enc) (C:=Try.checked) false ⟨#[],#[.slice none 0 0,.slice none 0 0],[]⟩ 8 (by kernel_rfl) (by kernel_rfl) (by kernel_rfl) (by kernel_rfl)) ?_
 intro W base args ds gs before hval hW hcnd _
 exact law_contract (c:=D.c7) Try.checked.mixed D.tysOk D.fnOk Try.func7 (by kernel_rfl) (by kernel_rfl) (by kernel_rfl) Try.underlying4 rfl
  (fun ds h=>by
    rw[show Try.f7.params.toList.length=2 by kernel_rfl] at h
    match ds,h with
    | [_,_],_=>rfl)
  laidOut (N:=8) (by kernel_rfl) (by kernel_rfl) D.law7 hval hW
theorem over:Rows.fnFilterRowsRow.holds Try.pinned (OpenSpec.ofChange Rows.fnFilterRowsSpec) :=
 OpenClaim.holds_of_wide 7 Try.f7 rfl rfl rfl rfl rfl rfl rfl ⟨rfl,rfl,rfl,rfl,rfl⟩ rfl rfl rfl rfl rfl (by kernel_rfl) Try.func7 (by kernel_rfl)
  (of_decide_eq_true (by kernel_rfl)) (by unfold Func.isWrapper;first | (rw[if_pos (by decide +kernel)];kernel_rfl) | (rw[if_neg (by decide +kernel)];exact ⟨rfl,rfl⟩))
  (fun os started H enc _=>lifted os started H enc)
theorem proved:Rows.FnFilterRowsSaid:=over
#print axioms proved
end Go.Proofs.Ytdobhipbgpiceaa.fnFilterRows
namespace Go.Proofs.Ytdobhipbgpiceaa
theorem fnFilterRows_holds:Rows.FnFilterRowsSaid:=fnFilterRows.proved
end Go.Proofs.Ytdobhipbgpiceaa
end
