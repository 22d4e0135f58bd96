/- FnExactCompileSession holds: for every input the law returns true, and its arguments read as before. -/
import Derived.Test.YtdobhipbgpiceaaChecked
import Derived.Shelf.SlicesE.Kit
import Derived.Shelf.RegionOpenPlain
import Derived.WalkKit
import Derived.Deep.LoopGhost
import Derived.Deep.RegionLaw
import Derived.Deep.MidRow
import Derived.Lib.Walk
import Derived.Sort.WalkB12
import Derived.Lib.SliceRun
import Derived.Lib.SlicesDelete
import Derived.Lib.SlicesMore
import Derived.Lib.SlicesCompact
import Derived.KernelRfl
import Derived.Test.YtdobhipbgpiceaaRows
import Derived.ProofKit
import Derived.OpenShut
import Derived.ShutString
import Derived.ChangeOld
import Derived.Below
import Derived.SizedLaws
import Derived.Test.YtdobhipbgpiceaaKernD
set_option linter.all false
set_option linter.unusedVariables false
section
namespace Go.Desk
open Go
def p2 (e:Int):Rat:=(2:Rat) ^ e
theorem p2_pos (e:Int):0<p2 e:=Rat.zpow_pos (by decide)
theorem p2_add (a b:Int):p2 (a+b)=p2 a * p2 b:=Rat.zpow_add (by decide) a b
theorem p2_zero:p2 0=1:=Rat.zpow_zero _
theorem p2_nat (n:Nat):p2 (n:Int)=((2 ^ n:Nat):Rat):=by
 induction n with
 | zero=>exact p2_zero
 | succ n ih =>
   rw[show ((n+1:Nat):Int)=(n:Int)+1 by omega,p2_add,ih,Nat.pow_succ,Rat.natCast_mul,show p2 1=(2:Rat) from Rat.zpow_one _]
   rfl
theorem p2_ge_one (n:Nat):1≤p2 (n:Int):=by
 rw[p2_nat]
 have:1≤2 ^ n:=Nat.one_le_two_pow
 exact_mod_cast this
theorem p2_le {a b:Int} (h:a≤b):p2 a≤p2 b:=by
 obtain ⟨n,hn⟩:=Int.eq_ofNat_of_zero_le (show 0≤b - a by omega)
 rw[show b=a+(n:Int) by omega,p2_add]
 have:=Rat.mul_le_mul_of_nonneg_left (p2_ge_one n) (Rat.le_of_lt (p2_pos a))
 rwa [Rat.mul_one] at this
theorem p2_lt {a b:Int} (h:a<b):p2 a<p2 b:=by
 have h1:p2 (a+1)≤p2 b:=p2_le (by omega)
 have h2:p2 (a+1)=p2 a * 2:=by rw[p2_add,show p2 1=(2:Rat) from Rat.zpow_one _]
 have h3:=p2_pos a
 grind
def mv (m:Nat) (e:Int):Rat:=(m:Rat) * p2 e
theorem mv_nonneg (m:Nat) (e:Int):0≤mv m e:=Rat.mul_nonneg (by exact_mod_cast Nat.zero_le m) (Rat.le_of_lt (p2_pos e))
theorem mv_zero (e:Int):mv 0 e=0:=by unfold mv;rw[show ((0:Nat):Rat)=0 from rfl,Rat.zero_mul]
theorem mv_shift (m k:Nat) (e:Int):mv (m * 2 ^ k) e=mv m (e+k):=by
 unfold mv
 rw[Rat.natCast_mul,p2_add,p2_nat]
 grind
theorem mv_le {m n:Nat} {e:Int}:mv m e≤mv n e↔m≤n:=by
 unfold mv
 constructor
 ·intro h
  have:=Rat.le_of_mul_le_mul_right h (p2_pos e)
  exact_mod_cast this
 ·intro h
  exact Rat.mul_le_mul_of_nonneg_right (by exact_mod_cast h) (Rat.le_of_lt (p2_pos e))
theorem mv_lt {m n:Nat} {e:Int}:mv m e<mv n e↔m<n:=by
 rw[← Rat.not_le,mv_le];omega
theorem mv_one (e:Int):mv 1 e=p2 e:=by unfold mv;rw[show ((1:Nat):Rat)=1 from rfl,Rat.one_mul]
theorem mv_pow (k:Nat) (e:Int):mv (2 ^ k) e=p2 (e+k):=by
 have:=mv_shift 1 k e
 rw[Nat.one_mul] at this
 rw[this,mv_one]
theorem cut_bounds (s:Bool) (n d B:Nat):(n≤B * 2 ^ d→Ieee.Toward.cut .even s n d≤B)∧(B * 2 ^ d≤n→B≤Ieee.Toward.cut .even s n d):=by
 unfold Ieee.Toward.cut
 simp only[Nat.shiftLeft_eq,Nat.one_mul]
 rcases Nat.lt_or_ge (n.log2+2) d with hd | hd
 ·rw[Nat.min_eq_right (Nat.le_of_lt hd)]
  have h1:n<2 ^ (n.log2+1):=Nat.lt_log2_self
  have h2:2 ^ (n.log2+2)=2 * 2 ^ (n.log2+1):=by rw[Nat.pow_succ];omega
  have h3:n<2 ^ (n.log2+2):=by omega
  rw[Nat.div_eq_of_lt h3,Nat.mod_eq_of_lt h3]
  have hm:(decide (2 ^ (n.log2+2)<2 * n)||(2 ^ (n.log2+2)==2 * n&&(0:Nat) % 2==1))=false:=by
   simp;omega
  rw[hm]
  constructor
  ·intro _;exact Nat.zero_le _
  ·intro h
   have h4:2 ^ (n.log2+2)≤2 ^ d:=Nat.pow_le_pow_right (by decide) (by omega)
   rcases Nat.eq_zero_or_pos B with rfl | hB
   ·exact Nat.zero_le _
   ·have:2 ^ d≤B * 2 ^ d:=Nat.le_mul_of_pos_left _ hB
    omega
 ·rw[Nat.min_eq_left hd]
  have hg:0<2 ^ d:=Nat.two_pow_pos d
  generalize 2 ^ d=g at hg ⊢
  have hn:g * (n / g)+n % g=n:=Nat.div_add_mod n g
  have hr:n % g<g:=Nat.mod_lt _ hg
  generalize hq:n / g=q at hn ⊢
  generalize hrr:n % g=r at hn hr ⊢
  constructor
  ·intro h
   cases hm:(decide (g<2 * r)||(g==2 * r&&q % 2==1))
   ·simp only[Bool.toNat_false,Nat.add_zero]
    have:g * q≤B * g:=by omega
    rw[Nat.mul_comm] at this
    exact Nat.le_of_mul_le_mul_right this hg
   ·simp only[Bool.toNat_true]
    have hr0:0<r:=by
     simp only[Bool.or_eq_true,decide_eq_true_eq,Bool.and_eq_true,beq_iff_eq] at hm
     omega
    have:g * q<g * B:=by rw[Nat.mul_comm g B];omega
    exact Nat.lt_of_mul_lt_mul_left this
  ·intro h
   have:B≤q:=by
    rw[← hq]
    exact (Nat.le_div_iff_mul_le hg).2 h
   omega
def sg (s:Bool) (v:Rat):Rat:=if s then -v else v
def fval (k:FloatKind) (x:Nat):Rat:=match k.decode x with
 | .number s m e=>sg s (mv m e)
 | _=>0
def Rep0 (k:FloatKind) (B:Rat):Prop:=∃ M P,M≤2 * k.format.binade∧k.format.leastPlace≤P∧B=mv M P
def topE:FloatKind→Int
 | .f32=>128
 | .f64=>1024
theorem fmt (k:FloatKind):∃ K:Nat,2≤K∧k.format.infRung=K * k.format.binade∧topE k=k.format.leastPlace+(k.format.fractionBits:Int)+(K:Int) - 1∧k.format.infRung<k.format.signWeight∧k.format.binade=2 ^ k.format.fractionBits:=by
 cases k
 ·exact ⟨255,by decide,by decide,by decide,by decide,rfl⟩
 ·exact ⟨2047,by decide,by decide,by decide,by decide,rfl⟩
theorem word_neg {f:Ieee.Format} {s:Bool} {r:Nat} (h:r<f.signWeight):(f.word s r / f.signWeight % 2==1)=s:=by
 have hp:0<f.signWeight:=by omega
 unfold Ieee.Format.word
 cases s
 ·simp[Nat.div_eq_of_lt h]
 ·simp only[if_true]
  rw[Nat.add_div_left _ hp,Nat.div_eq_of_lt h];rfl
theorem word_rung {f:Ieee.Format} {s:Bool} {r:Nat} (h:r<f.signWeight):f.word s r % f.signWeight=r:=by
 unfold Ieee.Format.word
 split
 ·rw[Nat.add_mod_left,Nat.mod_eq_of_lt h]
 ·rw[Nat.mod_eq_of_lt h]
theorem read_rung (k:FloatKind) (s:Bool) {j kept:Nat} (h1:kept≤2 * k.format.binade) (h2:0<j→k.format.binade≤kept) (h3:j * k.format.binade+kept<k.format.infRung) :
  ∃ m e,k.format.read (k.format.word s (j * k.format.binade+kept)) = .number s m e∧mv m e=mv kept (k.format.leastPlace+(j:Int))∧m≤2 * k.format.binade∧k.format.leastPlace≤e:=by
 obtain ⟨K,-,-,-,hw,hb⟩:=fmt k
 have hbp:0<k.format.binade:=by rw[hb];exact Nat.two_pow_pos _
 have hr:j * k.format.binade+kept<k.format.signWeight:=by omega
 unfold Ieee.Format.read
 simp only[word_neg hr,word_rung hr]
 generalize hbb:k.format.binade=b at *
 by_cases c1:j * b+kept<b
 ·rw[if_pos c1]
  have hj:j=0:=by
   rcases Nat.eq_zero_or_pos j with h | h
   ·exact h
   ·have:=Nat.le_mul_of_pos_left b h;omega
  subst hj
  refine ⟨_,_,rfl,?_,by omega,Int.le_refl _⟩
  rw[Nat.zero_mul,Nat.zero_add];simp
 ·rw[if_neg c1,if_pos h3]
  rcases Nat.lt_or_ge kept b with hk | hk
  ·rcases Nat.eq_zero_or_pos j with h | h
   ·subst h;omega
   ·have:=h2 h;omega
  ·rcases Nat.lt_or_ge kept (2 * b) with hk2 | hk2
   ·have e1:(j * b+kept) / b=j+1:=by
     rw[show j * b+kept=(kept - b)+b * (j+1) by rw[Nat.mul_add,Nat.mul_comm b j];omega,Nat.add_mul_div_left _ _ hbp,Nat.div_eq_of_lt (by omega)];omega
    have e2:(j * b+kept) % b=kept - b:=by
     rw[show j * b+kept=(kept - b)+b * (j+1) by rw[Nat.mul_add,Nat.mul_comm b j];omega,Nat.add_mul_mod_self_left,Nat.mod_eq_of_lt (by omega)]
    refine ⟨_,_,rfl,?_,by rw[e2];omega,by rw[e1];omega⟩
    rw[e1,e2,show b+(kept - b)=kept by omega,Nat.add_sub_cancel]
   ·have hk3:kept=2 * b:=by omega
    subst hk3
    have e1:(j * b+2 * b) / b=j+2:=by rw[← Nat.add_mul,Nat.mul_div_cancel _ hbp]
    have e2:(j * b+2 * b) % b=0:=by rw[← Nat.add_mul,Nat.mul_mod_left]
    refine ⟨_,_,rfl,?_,by rw[e2];omega,by rw[e1];omega⟩
    rw[e1,e2,Nat.add_zero,show (j+2 - 1:Nat)=j+1 by omega,show 2 * b=b * 2 ^ 1 by omega,mv_shift]
    congr 1;omega
theorem round_mag (k:FloatKind) (s:Bool) (m:Nat) (e:Int) {B0:Rat} (hB0:Rep0 k B0) (hv:mv m e≤B0) (hf:B0<p2 (topE k)) :
  ∃ m' e',k.format.read (k.format.nearest s m e) = .number s m' e'∧m'≤2 * k.format.binade∧k.format.leastPlace≤e'∧∀ B,Rep0 k B→(mv m e≤B→mv m' e'≤B)∧(B≤mv m e→B≤mv m' e'):=by
 obtain ⟨K,hK,hinf,htop,hw,hb⟩:=fmt k
 have hbp:0<k.format.binade:=by rw[hb];exact Nat.two_pow_pos _
 unfold Ieee.Format.nearest
 by_cases hm:m=0
 ·subst hm
  rw[if_pos rfl]
  have h3:0 * k.format.binade+0<k.format.infRung:=by rw[hinf,Nat.zero_mul,Nat.zero_add];exact Nat.mul_pos (by omega) hbp
  obtain ⟨m',e',r1,r2,r3,r4⟩:=read_rung k s (j:=0) (kept:=0) (Nat.zero_le _) (by omega) h3
  rw[Nat.zero_mul] at r1
  refine ⟨m',e',r1,r3,r4,fun B _ => ?_⟩
  rw[r2,mv_zero,mv_zero]
  exact ⟨id,id⟩
 rw[if_neg hm]
 generalize hla:max (e+(m.log2:Int) - (k.format.fractionBits:Int)) k.format.leastPlace=last
 have hl1:k.format.leastPlace≤last:=by omega
 have hl2:e+(m.log2:Int) - (k.format.fractionBits:Int)≤last:=by omega
 have hl3:last≠k.format.leastPlace→last=e+(m.log2:Int) - (k.format.fractionBits:Int):=by omega
 simp only
 generalize hn:m <<< (e - last).toNat=n
 generalize hd:(last - e).toNat=d
 have hval:mv n (last - (d:Int))=mv m e:=by
  rw[← hn,Nat.shiftLeft_eq,mv_shift]
  congr 1;omega
 have hlow:p2 (e+(m.log2:Int))≤mv m e:=by
  have:2 ^ m.log2≤m:=Nat.log2_self_le hm
  have h:=(mv_le (e:=e)).2 this
  rwa [mv_pow] at h
 have hhigh:mv m e<p2 (e+(m.log2:Int)+1):=by
  have:m<2 ^ (m.log2+1):=Nat.lt_log2_self
  have h:=(mv_lt (e:=e)).2 this
  rw[mv_pow] at h
  rw[show e+(m.log2:Int)+1=e+((m.log2+1:Nat):Int) by omega];exact h
 generalize hk:Ieee.Toward.cut .even s n d=kept
 have hcut:∀ B:Nat,(mv m e≤mv B last→mv kept last≤mv B last)∧(mv B last≤mv m e→mv B last≤mv kept last):=by
  intro B
  have hB:mv B last=mv (B * 2 ^ d) (last - (d:Int)):=by rw[mv_shift];congr 1;omega
  have:=cut_bounds s n d B
  rw[hk] at this
  rw[mv_le,mv_le]
  rw[← hval,hB,mv_le,mv_le]
  exact this
 have hkb:kept≤2 * k.format.binade:=by
  have h:=(hcut (2 * k.format.binade)).1 (by
   rw[hb,show 2 * 2 ^ k.format.fractionBits=2 ^ (k.format.fractionBits+1) by rw[Nat.pow_succ];omega,mv_pow]
   refine Rat.le_trans (Rat.le_of_lt hhigh) (p2_le ?_)
   omega)
  exact mv_le.1 h
 have hkl:last≠k.format.leastPlace→k.format.binade≤kept:=by
  intro h
  have h:=(hcut k.format.binade).2 (by
   rw[hb,mv_pow]
   refine Rat.le_trans (p2_le ?_) hlow
   have:=hl3 h
   omega)
  exact mv_le.1 h
 have key:∀ B,Rep0 k B→(mv m e≤B→mv kept last≤B)∧(B≤mv m e→B≤mv kept last):=by
  rintro B ⟨M,P,hM,hP,rfl⟩
  by_cases hPl:last≤P
  ·have hB:mv M P=mv (M * 2 ^ (P - last).toNat) last:=by rw[mv_shift];congr 1;omega
   rw[hB];exact hcut _
  ·have hl4:=hl3 (by omega)
   have hMB:mv M P≤mv k.format.binade last:=by
    refine Rat.le_trans (mv_le.2 hM) ?_
    rw[hb,show 2 * 2 ^ k.format.fractionBits=2 ^ (k.format.fractionBits+1) by rw[Nat.pow_succ];omega,mv_pow,mv_pow]
    exact p2_le (by omega)
   have hBm:mv k.format.binade last≤mv m e:=by
    rw[hb,mv_pow]
    exact Rat.le_trans (p2_le (by omega)) hlow
   constructor
   ·intro h
    have h1:mv m e≤mv k.format.binade last:=Rat.le_trans h hMB
    exact Rat.le_trans ((hcut _).1 h1) (Rat.le_trans hBm h)
   ·intro _
    exact Rat.le_trans hMB ((hcut _).2 hBm)
 have hfin:(last - k.format.leastPlace).toNat * k.format.binade+kept<k.format.infRung:=by
  rcases Nat.lt_or_ge ((last - k.format.leastPlace).toNat * k.format.binade+kept) k.format.infRung with h | h
  ·exact h
  ·exfalso
   have hR:mv kept last<p2 (topE k):=by
    have h1:=(key B0 hB0).1 hv
    grind
   rw[hinf] at h
   generalize hj:(last - k.format.leastPlace).toNat=j at h
   generalize hbb:k.format.binade=b at *
   have hj2:K≤j+2:=by
    rcases Nat.lt_or_ge (j+2) K with h' | h'
    ·have:(j+3) * b≤K * b:=Nat.mul_le_mul_right _ h'
     rw[Nat.add_mul] at this
     omega
    ·exact h'
   have hge:p2 (topE k)≤mv kept last:=by
    rcases Nat.lt_or_ge j (K - 1) with h' | h'
    ·have hj3:K=j+2:=by omega
     subst hj3
     rw[Nat.add_mul] at h
     have:kept=2 ^ (k.format.fractionBits+1):=by rw[Nat.pow_succ,← hb];omega
     rw[this,mv_pow]
     exact p2_le (by omega)
    ·have:mv (2 ^ k.format.fractionBits) last≤mv kept last:=mv_le.2 (by rw[← hb];exact hkl (by omega))
     refine Rat.le_trans ?_ this
     rw[mv_pow]
     exact p2_le (by omega)
   grind
 rw[Nat.min_eq_left (Nat.le_of_lt hfin)]
 obtain ⟨m',e',r1,r2,r3,r4⟩:=read_rung k s hkb (fun h=>hkl (by omega)) hfin
 refine ⟨m',e',r1,r3,r4,fun B hB => ?_⟩
 rw[r2,show k.format.leastPlace+((last - k.format.leastPlace).toNat:Int)=last by omega]
 exact key B hB
end Go.Desk
end
section
namespace Go.Desk
open Go
theorem mv_mul (a b:Nat) (e f:Int):mv (a * b) (e+f)=mv a e * mv b f:=by
 unfold mv;rw[Rat.natCast_mul,p2_add];grind
end Go.Desk
end
section
namespace Go.Desk
open Go
def Rep (k:FloatKind) (B:Rat):Prop:=∃ s C,Rep0 k C∧B=sg s C
theorem sg_false (v:Rat):sg false v=v:=rfl
theorem sg_true (v:Rat):sg true v = -v:=rfl
theorem rep0_nonneg {k:FloatKind} {B:Rat} (h:Rep0 k B):0≤B:=by
 obtain ⟨M,P,-,-,rfl⟩:=h;exact mv_nonneg _ _
theorem Rep0.rep {k:FloatKind} {B:Rat} (h:Rep0 k B):Rep k B:=⟨false,B,h,rfl⟩
theorem Rep0.neg {k:FloatKind} {B:Rat} (h:Rep0 k B):Rep k (-B):=⟨true,B,h,rfl⟩
def Val (k:FloatKind) (x:Nat) (v:Rat):Prop:=∃ s m e,k.decode x = .number s m e∧v=sg s (mv m e)∧m≤2 * k.format.binade∧k.format.leastPlace≤e
theorem Val.rep {k:FloatKind} {x:Nat} {v:Rat} (h:Val k x v):Rep k v:=by
 obtain ⟨s,m,e,-,rfl,h1,h2⟩:=h
 exact ⟨s,_,⟨m,e,h1,h2,rfl⟩,rfl⟩
theorem Val.inj {k:FloatKind} {x:Nat} {v w:Rat} (h:Val k x v) (h':Val k x w):v=w:=by
 obtain ⟨s,m,e,h1,rfl,-⟩:=h
 obtain ⟨s',m',e',h2,rfl,-⟩:=h'
 rw[h1] at h2;cases h2;rfl
def Near (k:FloatKind) (v R:Rat):Prop:=∀ B,Rep k B→(v≤B→R≤B)∧(B≤v→B≤R)
theorem write_val (k:FloatKind) (s:Bool) (m:Nat) (e:Int) {B0:Rat} (hB0:Rep0 k B0) (hv:mv m e≤B0) (hf:B0<p2 (topE k)) :
  ∃ R,Val k (k.encode (.number s m e)) R∧Near k (sg s (mv m e)) R:=by
 obtain ⟨m',e',r1,r2,r3,r4⟩:=round_mag k s m e hB0 hv hf
 refine ⟨sg s (mv m' e'),⟨s,m',e',r1,rfl,r2,r3⟩,?_⟩
 rintro B ⟨t,C,hC,rfl⟩
 obtain ⟨c1,c2⟩:=r4 C hC
 have hC0:=rep0_nonneg hC
 have h0:=mv_nonneg m e
 have h0' :=mv_nonneg m' e'
 have hz:mv m e≤0→mv m' e'≤0:=by
  intro h
  have hz:Rep0 k 0:=⟨0,k.format.leastPlace,Nat.zero_le _,Int.le_refl _,(mv_zero _).symm⟩
  exact (r4 0 hz).1 h
 cases s <;>cases t <;>simp only[sg] <;>constructor <;>intro h <;>simp only[Bool.false_eq_true,if_false,if_true] at * <;>grind
theorem Val.near_eq {k:FloatKind} {x:Nat} {v R:Rat} (h:Val k x R) (hn:Near k v R) (hv:Rep k v):Val k x v:=by
 have h1:=(hn v hv).1 Rat.le_refl
 have h2:=(hn v hv).2 Rat.le_refl
 have:v=R:=by grind
 rw[this];exact h
theorem Val.num {k:FloatKind} {x:Nat} {v:Rat} (h:Val k x v):isNaN k x=false:=by
 obtain ⟨s,m,e,h1,-⟩:=h
 unfold isNaN;rw[h1];rfl
theorem signed_val (s:Bool) (m up:Nat) (b:Int):((Ieee.signed s m up:Int):Rat) * p2 b=sg s (mv m (b+(up:Int))):=by
 rw[← mv_shift]
 unfold Ieee.signed sg mv
 rw[Nat.shiftLeft_eq]
 cases s <;>simp only[Bool.false_eq_true,if_false,if_true]
 ·rw[Rat.intCast_natCast]
 ·rw[Rat.intCast_neg,Rat.intCast_natCast];grind
theorem total_val (t:Int) (c:Bool) (b:Int):sg (if t=0 then c else decide (t<0)) (mv t.natAbs b)=(t:Rat) * p2 b:=by
 by_cases h0:t=0
 ·subst h0
  rw[if_pos rfl]
  simp only[Int.natAbs_zero,mv_zero,sg,Rat.intCast_zero,Rat.zero_mul]
  cases c <;>simp
 ·rw[if_neg h0]
  by_cases h1:t<0
  ·rw[decide_eq_true h1]
   have:(t:Rat) = -((t.natAbs:Nat):Rat):=by rw[← Rat.intCast_natCast,← Rat.intCast_neg];congr 1;omega
   rw[this]
   simp only[sg,if_true,mv];grind
  ·rw[decide_eq_false h1]
   have:(t:Rat)=((t.natAbs:Nat):Rat):=by rw[← Rat.intCast_natCast];congr 1;omega
   rw[this]
   simp only[sg,Bool.false_eq_true,if_false,mv]
theorem rlt {a b c:Rat} (h1:a≤b) (h2:b<c):a<c:=by grind
theorem abs_le {s:Bool} {c B:Rat} (_:0≤c) (h1:sg s c≤B) (h2 : -B≤sg s c):c≤B:=by
 cases s <;>simp only[sg,Bool.false_eq_true,if_false,if_true] at * <;>grind
theorem add_val {k:FloatKind} {x y:Nat} {a b B:Rat} (hx:Val k x a) (hy:Val k y b) (hB:Rep0 k B) (hf:B<p2 (topE k)) (h1:a+b≤B) (h2 : -B≤a+b) :
  ∃ R,Val k (fadd k x y) R∧Near k (a+b) R:=by
 obtain ⟨s,m,i,e1,rfl,-⟩:=hx
 obtain ⟨t,n,j,e2,rfl,-⟩:=hy
 have e1:k.format.read x = .number s m i:=e1
 have e2:k.format.read y = .number t n j:=e2
 generalize hb:min i j=base
 generalize ht:Ieee.signed s m (i - base).toNat+Ieee.signed t n (j - base).toNat=total
 have hadd:fadd k x y=k.encode (.number (if total=0 then s&&t else total<0) total.natAbs base):=by
  simp only[fadd,Ieee.Format.add,e1,e2,Ieee.Datum.sum,Option.map_some,hb,ht]
  rfl
 have hval:sg (if total=0 then s&&t else decide (total<0)) (mv total.natAbs base)=sg s (mv m i)+sg t (mv n j):=by
  rw[total_val,← ht,Rat.intCast_add,Rat.add_mul,signed_val,signed_val]
  congr 2 <;>congr 1 <;>omega
 rw[hadd,← hval]
 exact write_val k _ _ _ hB (abs_le (mv_nonneg _ _) (by rw[hval];exact h1) (by rw[hval];exact h2)) hf
theorem mul_val {k:FloatKind} {x y:Nat} {a b B:Rat} (hx:Val k x a) (hy:Val k y b) (hB:Rep0 k B) (hf:B<p2 (topE k)) (h1:a * b≤B) (h2 : -B≤a * b) :
  ∃ R,Val k (fmul k x y) R∧Near k (a * b) R:=by
 obtain ⟨s,m,i,e1,rfl,-⟩:=hx
 obtain ⟨t,n,j,e2,rfl,-⟩:=hy
 have e1:k.format.read x = .number s m i:=e1
 have e2:k.format.read y = .number t n j:=e2
 have hmul:fmul k x y=k.encode (.number (s ^^ t) (m * n) (i+j)):=by
  simp only[fmul,Ieee.Format.mul,e1,e2,Ieee.Datum.product,Option.map_some]
  rfl
 have hval:sg (s ^^ t) (mv (m * n) (i+j))=sg s (mv m i) * sg t (mv n j):=by
  rw[mv_mul]
  cases s <;>cases t <;>simp[sg] <;>grind
 rw[hmul,← hval]
 exact write_val k _ _ _ hB (abs_le (mv_nonneg _ _) (by rw[hval];exact h1) (by rw[hval];exact h2)) hf
theorem order_val {k:FloatKind} {x y:Nat} {a b:Rat} (hx:Val k x a) (hy:Val k y b):(k.format.order x y=some .lt↔a<b)∧(k.format.order x y=some .eq↔a=b)∧(k.format.order x y=some .gt↔b<a):=by
 obtain ⟨s,m,i,e1,rfl,-⟩:=hx
 obtain ⟨t,n,j,e2,rfl,-⟩:=hy
 have e1:k.format.read x = .number s m i:=e1
 have e2:k.format.read y = .number t n j:=e2
 generalize hb:min i j=base
 have ha:sg s (mv m i)=((Ieee.signed s m (i - base).toNat:Int):Rat) * p2 base:=by rw[signed_val];congr 2;omega
 have hc:sg t (mv n j)=((Ieee.signed t n (j - base).toNat:Int):Rat) * p2 base:=by rw[signed_val];congr 2;omega
 rw[ha,hc]
 have ho:k.format.order x y=some (compare (Ieee.signed s m (i - base).toNat) (Ieee.signed t n (j - base).toNat)):=by
  simp only[Ieee.Format.order,e1,e2,Ieee.Datum.order,hb]
 rw[ho]
 generalize Ieee.signed s m (i - base).toNat=u
 generalize Ieee.signed t n (j - base).toNat=v
 have hlt:∀ p q:Int,(p:Rat) * p2 base<(q:Rat) * p2 base↔p<q:=fun p q=>by rw[Rat.mul_lt_mul_right (p2_pos _),Rat.intCast_lt_intCast]
 have heq:((u:Rat) * p2 base=(v:Rat) * p2 base)↔u=v:=by
  constructor
  ·intro h
   rcases Int.lt_trichotomy u v with h1 | h1 | h1
   ·have:=(hlt u v).2 h1;grind
   ·exact h1
   ·have:=(hlt v u).2 h1;grind
  ·rintro rfl;rfl
 rw[hlt,hlt,heq]
 have hc:(u<v∧compare u v = .lt)∨(u=v∧compare u v = .eq)∨(v<u∧compare u v = .gt):=by
  rcases Int.lt_trichotomy u v with h1 | h1 | h1
  ·exact .inl ⟨h1,by simp[compare,compareOfLessAndEq,h1]⟩
  ·subst h1;exact .inr (.inl ⟨rfl,by simp[compare,compareOfLessAndEq]⟩)
  ·exact .inr (.inr ⟨h1,by simp only[compare,compareOfLessAndEq];rw[if_neg (by omega),if_neg (by omega)]⟩)
 rcases hc with ⟨h,e⟩ | ⟨h,e⟩ | ⟨h,e⟩ <;>rw[e] <;>simp <;>omega
theorem fle_val {k:FloatKind} {x y:Nat} {a b:Rat} (hx:Val k x a) (hy:Val k y b):fle k x y=true↔a≤b:=by
 have h1:=(order_val hx hy).1
 have h2:=(order_val hx hy).2.1
 simp only[fle,Bool.or_eq_true,beq_iff_eq,h1,h2]
 grind
theorem fge_val {k:FloatKind} {x y:Nat} {a b:Rat} (hx:Val k x a) (hy:Val k y b):fge k x y=true↔b≤a:=by
 have h1:=(order_val hx hy).2.2
 have h2:=(order_val hx hy).2.1
 simp only[fge,Bool.or_eq_true,beq_iff_eq,h1,h2]
 grind
theorem int_val {k:FloatKind} {n:Int} (hn:n.natAbs≤2 * k.format.binade):Val k (k.nearest n) (n:Rat):=by
 have hm:Rep0 k (mv n.natAbs 0):=⟨n.natAbs,0,hn,by cases k <;>decide,rfl⟩
 have hval:sg (decide (n<0)) (mv n.natAbs 0)=(n:Rat):=by
  have:=total_val n (decide (n<0)) 0
  rw[p2_zero,Rat.mul_one] at this
  rw[← this]
  congr 1
  by_cases h:n=0
  ·rw[if_pos h]
  ·rw[if_neg h]
 have hlt:mv n.natAbs 0<p2 (topE k):=by
  have h1:mv n.natAbs 0≤mv (2 * k.format.binade) 0:=mv_le.2 hn
  cases k
  ·exact rlt h1 (by rw[show 2 * FloatKind.f32.format.binade=2 ^ 24 by decide,mv_pow];exact p2_lt (by decide))
  ·exact rlt h1 (by rw[show 2 * FloatKind.f64.format.binade=2 ^ 53 by decide,mv_pow];exact p2_lt (by decide))
 obtain ⟨R,h1,h2⟩:=write_val k (decide (n<0)) n.natAbs 0 hm Rat.le_refl hlt
 have h3:Val k (k.nearest n) R:=h1
 rw[hval] at h2
 refine h3.near_eq h2 ⟨decide (n<0),_,hm,hval.symm⟩
theorem near_sg {k:FloatKind} {Q v:Rat} (hQ:0≤Q) (hv:0≤v) (h:∀ C,Rep0 k C→(Q≤C→v≤C)∧(C≤Q→C≤v)) (s:Bool):Near k (sg s Q) (sg s v):=by
 rintro B ⟨t,C,hC,rfl⟩
 obtain ⟨c1,c2⟩:=h C hC
 have hC0:=rep0_nonneg hC
 have hz:Q≤0→v≤0:=(h 0 ⟨0,k.format.leastPlace,Nat.zero_le _,Int.le_refl _,(mv_zero _).symm⟩).1
 cases s <;>cases t <;>simp only[sg] <;>constructor <;>intro h <;>simp only[Bool.false_eq_true,if_false,if_true] at * <;>grind
theorem Near.trans {k:FloatKind} {a b c:Rat} (h:Near k a b) (h':Near k b c):Near k a c:=fun B hB=>⟨fun h1=>(h' B hB).1 ((h B hB).1 h1),fun h1=>(h' B hB).2 ((h B hB).2 h1)⟩
theorem quot_sides (k:FloatKind) {m n:Nat} {i j:Int} (hn:n≠0) {more q:Nat} {st:Bool} (hmore:k.format.fractionBits+2+n.log2≤more+m.log2) (hq:(m <<< more) / n=q) (hst:((m <<< more) % n != 0)=st) {C:Rat} (hC:Rep0 k C) :
  (mv m i≤C * mv n j→mv (2 * q+st.toNat) (i - j - more - 1)≤C)∧(C * mv n j≤mv m i→C≤mv (2 * q+st.toNat) (i - j - more - 1)):=by
 obtain ⟨-,-,-,-,-,hb⟩:=fmt k
 obtain ⟨M,P,hM,hP,rfl⟩:=hC
 generalize hu:i - j - (more:Int)=u
 rw[Nat.shiftLeft_eq] at hq hst
 generalize hdv:m * 2 ^ more=dv at hq hst
 have hmv:mv m i=mv dv (u+j):=by rw[← hdv,mv_shift];congr 1;omega
 have hdm:=Nat.div_add_mod dv n
 rw[hq] at hdm
 have hml:=Nat.mod_lt dv (Nat.pos_of_ne_zero hn)
 have hstr:(st=true→0<dv % n)∧(st=false→dv % n=0):=by
  rw[← hst]
  constructor <;>intro h <;>simp at h <;>omega
 have hst1:=Bool.toNat_le st
 have h2:∀ c,mv c u=mv (2 * c) (u - 1):=fun c=>by rw[show 2 * c=c * 2 ^ 1 by omega,mv_shift];congr 1;omega
 by_cases hPu:u≤P
 ·have hC:mv M P=mv (M * 2 ^ (P - u).toNat) u:=by rw[mv_shift];congr 1;omega
  rw[hC]
  generalize M * 2 ^ (P - u).toNat=M'
  rw[hmv,← mv_mul,mv_le,mv_le,h2 M',mv_le,mv_le]
  constructor
  ·intro h
   have h3:n * q≤n * M' :=by rw[Nat.mul_comm n M'];omega
   have h4:=Nat.le_of_mul_le_mul_left h3 (Nat.pos_of_ne_zero hn)
   cases st
   ·simp only[Bool.toNat_false];omega
   ·have h5:n * q<n * M' :=by rw[Nat.mul_comm n M'];have:=hstr.1 rfl;omega
    have h6:=Nat.lt_of_mul_lt_mul_left h5
    simp only[Bool.toNat_true];omega
  ·intro h
   have:M'≤q:=by
    rw[← hq];exact (Nat.le_div_iff_mul_le (Nat.pos_of_ne_zero hn)).2 h
   omega
 ·by_cases hm:m=0
  ·subst hm
   have hd0:dv=0:=by rw[← hdv,Nat.zero_mul]
   subst hd0
   have hq0:q=0:=by rw[← hq,Nat.zero_div]
   subst hq0
   have:st=false:=by rw[← hst];simp
   subst this
   simp only[Bool.toNat_false,Nat.mul_zero,Nat.add_zero,mv_zero]
   refine ⟨fun _=>mv_nonneg _ _,fun h => ?_⟩
   rcases Nat.eq_zero_or_pos M with h0 | h0
   ·subst h0;rw[mv_zero];exact Rat.le_refl
   ·exfalso
    rw[← mv_mul] at h
    have h5:mv 0 (P+j)<mv (M * n) (P+j):=mv_lt.2 (Nat.mul_pos h0 (Nat.pos_of_ne_zero hn))
    rw[mv_zero] at h5
    grind
  ·have hdl:2 ^ (k.format.fractionBits+2+n.log2)≤dv:=by
    have h3:2 ^ (m.log2+more)≤dv:=by
     rw[Nat.pow_add,← hdv]
     exact Nat.mul_le_mul_right _ (Nat.log2_self_le hm)
    exact Nat.le_trans (Nat.pow_le_pow_right (by decide) (by omega)) h3
   have hql:2 ^ (k.format.fractionBits+1)≤q:=by
    rw[← hq,Nat.le_div_iff_mul_le (Nat.pos_of_ne_zero hn)]
    have h4:n<2 ^ (n.log2+1):=Nat.lt_log2_self
    have h5:2 ^ (k.format.fractionBits+1) * n≤2 ^ (k.format.fractionBits+1) * 2 ^ (n.log2+1):=Nat.mul_le_mul_left _ (Nat.le_of_lt h4)
    rw[← Nat.pow_add,show k.format.fractionBits+1+(n.log2+1)=k.format.fractionBits+2+n.log2 by omega] at h5
    omega
   have hCu:mv M P≤mv (2 ^ k.format.fractionBits) u:=by
    refine Rat.le_trans (mv_le.2 hM) ?_
    rw[hb,show 2 * 2 ^ k.format.fractionBits=2 ^ (k.format.fractionBits+1) by rw[Nat.pow_succ];omega,mv_pow,mv_pow]
    exact p2_le (by omega)
   have hpw:2 ^ k.format.fractionBits<2 ^ (k.format.fractionBits+1):=by rw[Nat.pow_succ];have:=Nat.two_pow_pos k.format.fractionBits;omega
   have hle:mv M P≤mv (2 * q+st.toNat) (u - 1):=by
    refine Rat.le_trans hCu ?_
    rw[h2,mv_le];omega
   refine ⟨fun h => ?_,fun _=>hle⟩
   exfalso
   have h6:mv M P * mv n j≤mv (2 ^ k.format.fractionBits) u * mv n j:=Rat.mul_le_mul_of_nonneg_right hCu (mv_nonneg _ _)
   have h7:=Rat.le_trans h h6
   rw[hmv,← mv_mul,mv_le] at h7
   have h8:2 ^ (k.format.fractionBits+1) * n≤q * n:=Nat.mul_le_mul_right _ hql
   have h9:2 ^ k.format.fractionBits * n<2 ^ (k.format.fractionBits+1) * n:=Nat.mul_lt_mul_of_pos_right hpw (Nat.pos_of_ne_zero hn)
   rw[Nat.mul_comm q n] at h8
   omega
theorem div_val {k:FloatKind} {x y:Nat} {a b B:Rat} (hx:Val k x a) (hy:Val k y b) (hb:b≠0) (hB:Rep0 k B) (hf:B<p2 (topE k)) (h1:a / b≤B) (h2 : -B≤a / b) :
  ∃ R,Val k (fdiv k x y) R∧Near k (a / b) R:=by
 obtain ⟨s,m,i,e1,rfl,-⟩:=hx
 obtain ⟨t,n,j,e2,rfl,-⟩:=hy
 have e1:k.format.read x = .number s m i:=e1
 have e2:k.format.read y = .number t n j:=e2
 have hn:n≠0:=by
  rintro rfl
  apply hb
  rw[mv_zero];cases t <;>simp[sg]
 generalize hmo:k.format.fractionBits+2+n.log2 - m.log2=more
 generalize hq:(m <<< more) / n=q
 generalize hst:((m <<< more) % n != 0)=st
 have hdiv:fdiv k x y=k.encode (.number (s ^^ t) (2 * q+st.toNat) (i - j - more - 1)):=by
  simp only[fdiv,Ieee.Format.div,e1,e2,Ieee.Datum.quotient,if_neg hn,hmo,hq,hst,Option.map_some]
  rfl
 have hnp:0<mv n j:=by have:=(mv_lt (e:=j)).2 (Nat.pos_of_ne_zero hn);rwa [mv_zero] at this
 have hval:sg s (mv m i) / sg t (mv n j)=sg (s ^^ t) (mv m i / mv n j):=by
  cases s <;>cases t <;>simp[sg] <;>grind
 have hcan:mv m i / mv n j * mv n j=mv m i:=by rw[Rat.div_mul_cancel];grind
 have hQ:0≤mv m i / mv n j:=by
  have h3:=mv_nonneg m i
  rcases Rat.le_total (a:=0) (b:=mv m i / mv n j) with h | h
  ·exact h
  ·have h4:mv m i / mv n j * mv n j≤0 * mv n j:=Rat.mul_le_mul_of_nonneg_right h (Rat.le_of_lt hnp)
   rw[hcan,Rat.zero_mul] at h4
   have h5:mv m i=0:=by grind
   rw[h5,Rat.div_def,Rat.zero_mul];exact Rat.le_refl
 have hside:∀ C,Rep0 k C→(mv m i / mv n j≤C→mv (2 * q+st.toNat) (i - j - more - 1)≤C)∧(C≤mv m i / mv n j→C≤mv (2 * q+st.toNat) (i - j - more - 1)):=by
  intro C hC
  obtain ⟨c1,c2⟩:=quot_sides k (i:=i) (j:=j) hn (by omega) hq hst hC
  constructor
  ·intro h
   have:=Rat.mul_le_mul_of_nonneg_right h (Rat.le_of_lt hnp)
   rw[hcan] at this
   exact c1 this
  ·intro h
   have:=Rat.mul_le_mul_of_nonneg_right h (Rat.le_of_lt hnp)
   rw[hcan] at this
   exact c2 this
 rw[hval] at h1 h2 ⊢
 have hQB:=abs_le hQ h1 h2
 obtain ⟨R,r1,r2⟩:=write_val k (s ^^ t) (2 * q+st.toNat) (i - j - more - 1) hB ((hside B hB).1 hQB) hf
 rw[hdiv]
 exact ⟨R,r1,(near_sg hQ (mv_nonneg _ _) hside _).trans r2⟩
end Go.Desk
end
section
namespace Go.Desk
open Go
theorem read_val {k:FloatKind} {x:Nat} {s:Bool} {m:Nat} {e:Int} (h:k.decode x = .number s m e):Val k x (sg s (mv m e)):=by
 refine ⟨s,m,e,h,rfl,?_⟩
 obtain ⟨K,-,-,-,-,hb⟩:=fmt k
 have hbp:0<k.format.binade:=by rw[hb];exact Nat.two_pow_pos _
 have h:k.format.read x = .number s m e:=h
 unfold Ieee.Format.read at h
 by_cases c1:x % k.format.signWeight<k.format.binade
 ·simp only[if_pos c1] at h
  cases h
  exact ⟨by omega,Int.le_refl _⟩
 ·by_cases c2:x % k.format.signWeight<k.format.infRung
  ·simp only[if_neg c1,if_pos c2] at h
   cases h
   have:=Nat.mod_lt (x % k.format.signWeight) hbp
   exact ⟨by omega,by omega⟩
  ·by_cases c3:x % k.format.signWeight=k.format.infRung
   ·simp only[if_neg c1,if_neg c2,if_pos c3] at h;cases h
   ·simp only[if_neg c1,if_neg c2,if_neg c3] at h;cases h
end Go.Desk
end
section
namespace Go.Desk
open Go
theorem read_norm {k:FloatKind} {x:Nat} {s:Bool} {m:Nat} {e:Int} (h:k.decode x = .number s m e) :
  m<2 * k.format.binade∧k.format.leastPlace≤e∧(k.format.leastPlace<e→k.format.binade≤m)∧x % k.format.signWeight=(e - k.format.leastPlace).toNat * k.format.binade+m∧(x / k.format.signWeight % 2==1)=s:=by
 obtain ⟨K,-,-,-,-,hb⟩:=fmt k
 have hbp:0<k.format.binade:=by rw[hb];exact Nat.two_pow_pos _
 have h:k.format.read x = .number s m e:=h
 unfold Ieee.Format.read at h
 by_cases c1:x % k.format.signWeight<k.format.binade
 ·simp only[if_pos c1] at h
  cases h
  refine ⟨by omega,Int.le_refl _,fun h=>by omega,?_,rfl⟩
  rw[Int.sub_self];simp
 ·by_cases c2:x % k.format.signWeight<k.format.infRung
  ·simp only[if_neg c1,if_pos c2] at h
   cases h
   generalize x % k.format.signWeight=r at *
   generalize hbb:k.format.binade=b at *
   have h1:=Nat.mod_lt r hbp
   have h2:=Nat.div_add_mod r b
   have h3:1≤r / b:=(Nat.le_div_iff_mul_le hbp).2 (by omega)
   refine ⟨by omega,by omega,fun _=>by omega,?_,rfl⟩
   have h4:(k.format.leastPlace+((r / b - 1:Nat):Int) - k.format.leastPlace).toNat=r / b - 1:=by omega
   rw[h4]
   generalize r / b=q at *
   obtain ⟨q,rfl⟩:∃ p,q=p+1:=⟨q - 1,by omega⟩
   rw[Nat.mul_add] at h2
   rw[Nat.add_sub_cancel,Nat.mul_comm q b]
   omega
  ·by_cases c3:x % k.format.signWeight=k.format.infRung
   ·simp only[if_neg c1,if_neg c2,if_pos c3] at h;cases h
   ·simp only[if_neg c1,if_neg c2,if_neg c3] at h;cases h
theorem mv_norm {k:FloatKind} {m m':Nat} {e e':Int} (h1:m<2 * k.format.binade) (h1':m'<2 * k.format.binade) (h2:k.format.leastPlace≤e) (h2':k.format.leastPlace≤e') (h3:k.format.leastPlace<e→k.format.binade≤m) (h3':k.format.leastPlace<e'→k.format.binade≤m') (h:mv m e=mv m' e'):m=m'∧e=e' :=by
 have key:∀ {m m':Nat} {e e':Int},m<2 * k.format.binade→k.format.leastPlace≤e→(k.format.leastPlace<e'→k.format.binade≤m')→mv m e=mv m' e'→¬ e<e' :=by
  intro m m' e e' a1 a2 a3 a4 a5
  have e1:mv m' e'=mv (m' * 2 ^ (e' - e).toNat) e:=by rw[mv_shift];congr 1;omega
  rw[e1] at a4
  have h5:=mv_le.1 (show mv (m' * 2 ^ (e' - e).toNat) e≤mv m e by rw[a4];exact Rat.le_refl)
  have h6:=a3 (by omega)
  have h7:2 ^ 1≤2 ^ (e' - e).toNat:=Nat.pow_le_pow_right (by decide) (by omega)
  have h8:k.format.binade * 2≤m' * 2 ^ (e' - e).toNat:=Nat.mul_le_mul h6 h7
  omega
 have h4:=key h1 h2 h3' h
 have h5:=key h1' h2' h3 h.symm
 have he:e=e' :=by omega
 subst he
 refine ⟨?_,rfl⟩
 have h6:=mv_le.1 (show mv m e≤mv m' e by rw[h];exact Rat.le_refl)
 have h7:=mv_le.1 (show mv m' e≤mv m e by rw[h];exact Rat.le_refl)
 omega
theorem word_inj {k:FloatKind} {x y:Nat} {s:Bool} {m m':Nat} {e e':Int} (hx:x<2 * k.format.signWeight) (hy:y<2 * k.format.signWeight) (h:k.decode x = .number s m e) (h':k.decode y = .number s m' e') (hv:mv m e=mv m' e'):x=y:=by
 obtain ⟨a1,a2,a3,a4,a5⟩:=read_norm h
 obtain ⟨b1,b2,b3,b4,b5⟩:=read_norm h'
 obtain ⟨rfl,rfl⟩:=mv_norm a1 b1 a2 b2 a3 b3 hv
 have hp:0<k.format.signWeight:=by omega
 have h1:x % k.format.signWeight=y % k.format.signWeight:=by rw[a4,b4]
 have q1:x / k.format.signWeight<2:=(Nat.div_lt_iff_lt_mul hp).2 hx
 have q2:y / k.format.signWeight<2:=(Nat.div_lt_iff_lt_mul hp).2 hy
 rw[Nat.mod_eq_of_lt q1] at a5
 rw[Nat.mod_eq_of_lt q2] at b5
 have h2:x / k.format.signWeight=y / k.format.signWeight:=by
  have:(x / k.format.signWeight==1)=(y / k.format.signWeight==1):=by rw[a5,b5]
  generalize x / k.format.signWeight=p at *
  generalize y / k.format.signWeight=q at *
  rcases Nat.lt_or_ge p 1 with c1 | c1 <;>rcases Nat.lt_or_ge q 1 with c2 | c2
  ·omega
  ·obtain rfl:p=0:=by omega
   obtain rfl:q=1:=by omega
   cases this
  ·obtain rfl:p=1:=by omega
   obtain rfl:q=0:=by omega
   cases this
  ·omega
 rw[← Nat.div_add_mod x k.format.signWeight,← Nat.div_add_mod y k.format.signWeight,h1,h2]
theorem nearest_word (f:Ieee.Format) (s:Bool) (m:Nat) (e:Int):f.nearest s m e=f.word s (f.nearest false m e):=by
 unfold Ieee.Format.nearest
 by_cases hm:m=0
 ·rw[if_pos hm,if_pos hm];rfl
 ·rw[if_neg hm,if_neg hm];rfl
theorem nearest_pos_lt (k:FloatKind) (m:Nat) (e:Int):k.format.nearest false m e≤k.format.infRung:=by
 unfold Ieee.Format.nearest
 by_cases hm:m=0
 ·rw[if_pos hm];exact Nat.zero_le _
 ·rw[if_neg hm];exact Nat.min_le_right _ _
theorem word_lt (k:FloatKind) (s:Bool) {r:Nat} (h:r≤k.format.infRung):k.format.word s r<2 * k.format.signWeight:=by
 have:=infRung_lt k
 unfold Ieee.Format.word
 split <;>omega
theorem exact_write (k:FloatKind) (s:Bool) {m:Nat} {e:Int} (h:Rep0 k (mv m e)) (hf:mv m e<p2 (topE k)):∃ m' e',k.decode (k.encode (.number s m e)) = .number s m' e'∧mv m' e'=mv m e:=by
 obtain ⟨m',e',r1,-,-,r4⟩:=round_mag k s m e h Rat.le_refl hf
 obtain ⟨c1,c2⟩:=r4 _ h
 have h1:=c1 Rat.le_refl
 have h2:=c2 Rat.le_refl
 exact ⟨m',e',r1,by grind⟩
def size32 (x:Nat):Nat:=if isNaN .f32 x then qnan .f32 else x % 2147483648
theorem decode_size {x:Nat}:(∀ s m e,FloatKind.f32.decode x = .number s m e→FloatKind.f32.decode (x % 2147483648) = .number false m e)∧(∀ s,FloatKind.f32.decode x = .infinity s→FloatKind.f32.decode (x % 2147483648) = .infinity false):=by
 have hw:FloatKind.f32.format.signWeight=2147483648:=rfl
 have hr:x % 2147483648 % FloatKind.f32.format.signWeight=x % FloatKind.f32.format.signWeight:=by rw[hw,Nat.mod_mod]
 have hs:(x % 2147483648 / FloatKind.f32.format.signWeight % 2==1)=false:=by
  rw[hw,Nat.div_eq_of_lt (Nat.mod_lt _ (by decide))];rfl
 constructor
 ·intro s m e h
  have h:FloatKind.f32.format.read x = .number s m e:=h
  show FloatKind.f32.format.read (x % 2147483648)=_
  unfold Ieee.Format.read at h ⊢
  simp only[hr,hs]
  by_cases c1:x % FloatKind.f32.format.signWeight<FloatKind.f32.format.binade
  ·simp only[if_pos c1] at h ⊢;cases h;rfl
  ·by_cases c2:x % FloatKind.f32.format.signWeight<FloatKind.f32.format.infRung
   ·simp only[if_neg c1,if_pos c2] at h ⊢;cases h;rfl
   ·by_cases c3:x % FloatKind.f32.format.signWeight=FloatKind.f32.format.infRung
    ·simp only[if_neg c1,if_neg c2,if_pos c3] at h;cases h
    ·simp only[if_neg c1,if_neg c2,if_neg c3] at h;cases h
 ·intro s h
  have h:FloatKind.f32.format.read x = .infinity s:=h
  show FloatKind.f32.format.read (x % 2147483648)=_
  unfold Ieee.Format.read at h ⊢
  simp only[hr,hs]
  by_cases c1:x % FloatKind.f32.format.signWeight<FloatKind.f32.format.binade
  ·simp only[if_pos c1] at h;cases h
  ·by_cases c2:x % FloatKind.f32.format.signWeight<FloatKind.f32.format.infRung
   ·simp only[if_neg c1,if_pos c2] at h;cases h
   ·by_cases c3:x % FloatKind.f32.format.signWeight=FloatKind.f32.format.infRung
    ·simp only[if_neg c1,if_neg c2,if_pos c3]
    ·simp only[if_neg c1,if_neg c2,if_neg c3] at h;cases h
theorem val_zero (k:FloatKind):Val k 0 0:=by
 have h:k.decode 0 = .number false 0 k.format.leastPlace:=by cases k <;>decide
 have:=read_val h
 rwa [sg_false,mv_zero] at this
theorem GoodF.lt32 {x:Nat} (h:GoodF .f32 x):x<4294967296:=by
 have:=h.2
 simpa [Lit.wf] using this
end Go.Desk
end
section
namespace Go.Desk
open Go
theorem br_t {α:Type} (x y:Option α):br true x y=x:=rfl
theorem br_f {α:Type} (x y:Option α):br false x y=y:=rfl
theorem gd_t {α:Type} (x:Option α):gd true x=x:=rfl
theorem bd_s {α β:Type} (a:α) (k:α→Option β):bd (some a) k=k a:=rfl
theorem sm_l {A B γ:Type} (a:A) (f:A→γ) (g:B→γ):sm (.inl a) f g=f a:=rfl
theorem sm_r {A B γ:Type} (a:B) (f:A→γ) (g:B→γ):sm (.inr a) f g=g a:=rfl
section
variable {p zs:List Nat} {z:Nat} {k:FloatKind}
theorem fAt_mid:fAt (fls k (p++z::zs)) p.length=z:=by simp[fAt_fls,List.getD]
theorem okAt_mid:okAt [.flt k] (fls k (p++z::zs)) p.length=true:=okAt_fls (by simp)
theorem toNat_len {α:Type} (p:List α):((p.length:Nat):Int).toNat=p.length:=rfl
end
section
variable {p zs:List Int} {z:Int} {k:IntKind}
theorem iAt_mid:iAt (its k (p++z::zs)) p.length=z:=by simp[iAt_its,List.getD]
theorem okAt_midI:okAt [.int k] (its k (p++z::zs)) p.length=true:=okAt_its (by simp)
end
section
variable {α:Type} {p zs:List α} {z:α}
theorem lt_mid:decide ((p.length:Int)<((p++z::zs).length:Int))=true:=by simp;omega
theorem in_mid:decide ((0:Int)≤(p.length:Int)∧(p.length:Int)<((p++z::zs).length:Int))=true:=by simp;omega
theorem lt_end:decide ((p.length:Int)<((p++[]).length:Int))=false:=by simp
theorem wrap_len (h:p.length<4611686018427387904):IntKind.i64.wrap ((p.length:Int)+1)=(((p++[z]).length:Nat):Int):=by rw[wrap_succ (by omega)];simp
theorem push_ok (h:p.length<2147483648):Nat.ble (p.length+1) 2147483648=true:=by rw[Nat.ble_eq];omega
theorem push_len:p.length+1=(p++[z]).length:=by simp
end
theorem push_its (k:IntKind) (p:List Int) (y:Int):its k p++setN (reps 1 [T.int k 0]) 0 [T.int k y]=its k (p++[y]):=by simp[its,setN,reps]
theorem fls_drop (k:FloatKind) (xs:List Nat) (i:Nat):(fls k xs).drop i=fls k (xs.drop i):=by simp[fls,List.map_drop]
def W32 (x:Nat):Prop:=x<4294967296∧canon .f32 x=x
theorem GoodF.w32 {x:Nat} (h:GoodF .f32 x):W32 x:=⟨h.lt32,h.1⟩
theorem w32_qnan:W32 (qnan .f32):=⟨by decide,by decide⟩
theorem write_lt (k:FloatKind) {d:Ieee.Datum} (h:∀ s t,d ≠ .nan s t):k.format.write d<2 * k.format.signWeight:=by
 cases d with
 | nan s t=>exact absurd rfl (h s t)
 | infinity s=>exact word_lt k s (Nat.le_refl _)
 | number s m e =>
   show k.format.nearest s m e<_
   rw[nearest_word]
   exact word_lt k s (nearest_pos_lt k m e)
theorem w32_write {d:Ieee.Datum} (h:∀ s t,d ≠ .nan s t):W32 (FloatKind.f32.format.write d):=⟨write_lt .f32 h,canon_num (write_num h)⟩
theorem w32_fdiv (x y:Nat):W32 (fdiv .f32 x y):=by
 unfold fdiv Ieee.Format.div
 cases h:(FloatKind.f32.format.read x).quotient (FloatKind.f32.format.fractionBits+2) (FloatKind.f32.format.read y) with
 | none=>exact w32_qnan
 | some d=>exact w32_write (fun s t e=>quotient_not_nan h s t e)
def Plain (x:Nat):Prop:=∃ m:Int,(-64≤m∧m≤64)∧(x=fdiv .f32 (FloatKind.f32.nearest m) 1088421888∨x=fdiv .f32 (FloatKind.f32.nearest m) 1098907648)
theorem Plain.w32 {x:Nat} (h:Plain x):W32 x:=by
 obtain ⟨m,-,rfl | rfl⟩:=h <;>exact w32_fdiv _ _
section
variable {σ α β:Type}
end
end Go.Desk
end
section
namespace Go.Desk
open Go
def magOf (k:FloatKind) (x:Nat):Nat:=x % k.format.signWeight
def negOf (k:FloatKind) (x:Nat):Bool:=x / k.format.signWeight % 2==1
def key (k:FloatKind) (x:Nat):Int:=if negOf k x then -(magOf k x:Int) else (magOf k x:Int)
theorem binade_pos (k:FloatKind):0<k.format.binade:=by cases k <;>decide
theorem read_inf {k:FloatKind} {x:Nat} {s:Bool} (h:k.decode x = .infinity s):magOf k x=k.format.infRung∧negOf k x=s:=by
 have h:k.format.read x = .infinity s:=h
 unfold Ieee.Format.read at h
 by_cases c1:x % k.format.signWeight<k.format.binade
 ·simp only[if_pos c1] at h;cases h
 ·by_cases c2:x % k.format.signWeight<k.format.infRung
  ·simp only[if_neg c1,if_pos c2] at h;cases h
  ·by_cases c3:x % k.format.signWeight=k.format.infRung
   ·simp only[if_neg c1,if_neg c2,if_pos c3] at h;cases h;exact ⟨c3,rfl⟩
   ·simp only[if_neg c1,if_neg c2,if_neg c3] at h;cases h
theorem read_fin {k:FloatKind} {x:Nat} {s:Bool} {m:Nat} {e:Int} (h:k.decode x = .number s m e):magOf k x<k.format.infRung∧negOf k x=s:=by
 refine ⟨?_,(read_norm h).2.2.2.2⟩
 have h:k.format.read x = .number s m e:=h
 unfold Ieee.Format.read at h
 have hb:k.format.binade<k.format.infRung:=by cases k <;>decide
 by_cases c1:x % k.format.signWeight<k.format.binade
 ·unfold magOf;omega
 ·by_cases c2:x % k.format.signWeight<k.format.infRung
  ·exact c2
  ·by_cases c3:x % k.format.signWeight=k.format.infRung
   ·simp only[if_neg c1,if_neg c2,if_pos c3] at h;cases h
   ·simp only[if_neg c1,if_neg c2,if_neg c3] at h;cases h
theorem mag_lt {k:FloatKind} {x y:Nat} {s t:Bool} {m n:Nat} {i j:Int} (h:k.decode x = .number s m i) (h':k.decode y = .number t n j) (hl:magOf k x<magOf k y):mv m i<mv n j:=by
 obtain ⟨a1,a2,a3,a4,-⟩:=read_norm h
 obtain ⟨b1,b2,b3,b4,-⟩:=read_norm h'
 unfold magOf at hl
 rw[a4,b4] at hl
 have hB:=binade_pos k
 generalize k.format.binade=B at *
 generalize k.format.leastPlace=L at *
 rcases Int.lt_trichotomy i j with hij | rfl | hij
 ·have e1:mv n j=mv (n * 2 ^ (j - i).toNat) i:=by rw[mv_shift];congr 1;omega
  rw[e1,mv_lt]
  have h6:=b3 (by omega)
  have h7:2 ^ 1≤2 ^ (j - i).toNat:=Nat.pow_le_pow_right (by decide) (by omega)
  have h8:B * 2≤n * 2 ^ (j - i).toNat:=Nat.mul_le_mul h6 h7
  omega
 ·rw[mv_lt];omega
 ·exfalso
  have h6:=a3 (by omega)
  have:(i - L).toNat=(j - L).toNat+(i - j).toNat:=by omega
  rw[this,Nat.add_mul] at hl
  have:B≤(i - j).toNat * B:=Nat.le_mul_of_pos_left B (by omega)
  omega
theorem mag_eq {k:FloatKind} {x y:Nat} {s t:Bool} {m n:Nat} {i j:Int} (h:k.decode x = .number s m i) (h':k.decode y = .number t n j) (hl:magOf k x=magOf k y):mv m i=mv n j:=by
 obtain ⟨a1,a2,a3,a4,-⟩:=read_norm h
 obtain ⟨b1,b2,b3,b4,-⟩:=read_norm h'
 unfold magOf at hl
 rw[a4,b4] at hl
 have hB:=binade_pos k
 generalize k.format.binade=B at *
 generalize k.format.leastPlace=L at *
 have:i=j:=by
  rcases Int.lt_trichotomy i j with hij | e | hij
  ·exfalso
   have h6:=b3 (by omega)
   have:(j - L).toNat=(i - L).toNat+(j - i).toNat:=by omega
   rw[this,Nat.add_mul] at hl
   have:B≤(j - i).toNat * B:=Nat.le_mul_of_pos_left B (by omega)
   omega
  ·exact e
  ·exfalso
   have h6:=a3 (by omega)
   have:(i - L).toNat=(j - L).toNat+(i - j).toNat:=by omega
   rw[this,Nat.add_mul] at hl
   have:B≤(i - j).toNat * B:=Nat.le_mul_of_pos_left B (by omega)
   omega
 subst this
 have:m=n:=by omega
 rw[this]
theorem mag_zero {k:FloatKind} {x:Nat} {s:Bool} {m:Nat} {i:Int} (h:k.decode x = .number s m i):(magOf k x=0↔mv m i=0):=by
 obtain ⟨a1,a2,a3,a4,-⟩:=read_norm h
 have hB:=binade_pos k
 unfold magOf
 rw[a4]
 constructor
 ·intro h0
  have:m=0:=by omega
  rw[this,mv_zero]
 ·intro h0
  have hm:m=0:=by
   rcases Nat.eq_zero_or_pos m with e | e
   ·exact e
   ·have h1:mv 0 i<mv m i:=mv_lt.2 e
    rw[mv_zero,h0] at h1
    exact absurd h1 (by decide)
  subst hm
  have:¬ k.format.leastPlace<i:=fun h1=>by have:=a3 h1;omega
  have:(i - k.format.leastPlace).toNat=0:=by omega
  rw[this];simp
theorem compare_int (a b:Int):(a<b∧compare a b = .lt)∨(a=b∧compare a b = .eq)∨(b<a∧compare a b = .gt):=by
 rcases Int.lt_trichotomy a b with h1 | h1 | h1
 ·exact .inl ⟨h1,by simp[compare,compareOfLessAndEq,h1]⟩
 ·subst h1;exact .inr (.inl ⟨rfl,by simp[compare,compareOfLessAndEq]⟩)
 ·exact .inr (.inr ⟨h1,by simp only[compare,compareOfLessAndEq];rw[if_neg (by omega),if_neg (by omega)]⟩)
theorem key_lt_val {k:FloatKind} {x y:Nat} {s t:Bool} {m n:Nat} {i j:Int} (h:k.decode x = .number s m i) (h':k.decode y = .number t n j) (hl:key k x<key k y):sg s (mv m i)<sg t (mv n j):=by
 have hs:=(read_fin h).2
 have ht:=(read_fin h').2
 unfold key at hl
 rw[hs,ht] at hl
 have z1:=mag_zero h
 have z2:=mag_zero h'
 have p1:=mv_nonneg m i
 have p2:=mv_nonneg n j
 cases s <;>cases t <;>simp only[Bool.false_eq_true,if_false,if_true,sg] at hl ⊢
 ·exact mag_lt h h' (by omega)
 ·omega
 ·rcases Nat.eq_zero_or_pos (magOf k y) with e | e
  ·have:0<magOf k x:=by omega
   have:mv m i≠0:=fun h0=>by rw[z1.2 h0] at this;omega
   have h0:=z2.1 e
   rw[h0];grind
  ·have:mv n j≠0:=fun h0=>by rw[z2.2 h0] at e;omega
   grind
 ·have:=mag_lt h' h (by omega)
  grind
theorem key_eq_val {k:FloatKind} {x y:Nat} {s t:Bool} {m n:Nat} {i j:Int} (h:k.decode x = .number s m i) (h':k.decode y = .number t n j) (hl:key k x=key k y):sg s (mv m i)=sg t (mv n j):=by
 have hs:=(read_fin h).2
 have ht:=(read_fin h').2
 unfold key at hl
 rw[hs,ht] at hl
 have z1:=mag_zero h
 have z2:=mag_zero h'
 cases s <;>cases t <;>simp only[Bool.false_eq_true,if_false,if_true,sg] at hl ⊢
 ·exact mag_eq h h' (by omega)
 ·rw[z1.1 (by omega),z2.1 (by omega)];rfl
 ·rw[z1.1 (by omega),z2.1 (by omega)];rfl
 ·rw[mag_eq h h' (by omega)]
theorem order_key {k:FloatKind} {x y:Nat} (hx:isNaN k x=false) (hy:isNaN k y=false):k.format.order x y=some (compare (key k x) (key k y)):=by
 have inf_pos:∀ {z:Nat} {s:Bool},k.decode z = .infinity s→key k z=if s then -(k.format.infRung:Int) else (k.format.infRung:Int):=by
  intro z s h
  obtain ⟨h1,h2⟩:=read_inf h
  unfold key;rw[h1,h2]
 have fin_lt:∀ {z:Nat} {s:Bool} {m:Nat} {e:Int},k.decode z = .number s m e → -(k.format.infRung:Int)<key k z∧key k z<(k.format.infRung:Int):=by
  intro z s m e h
  obtain ⟨h1,h2⟩:=read_fin h
  unfold key;rw[h2]
  cases s <;>simp only[Bool.false_eq_true,if_false,if_true] <;>omega
 have hI:(0:Int)<(k.format.infRung:Int):=by cases k <;>decide
 have lt_c:∀ a b:Int,a<b→compare a b = .lt:=fun a b h=>by rcases compare_int a b with ⟨h1,e⟩ | ⟨h1,e⟩ | ⟨h1,e⟩ <;>first | exact e | omega
 have gt_c:∀ a b:Int,b<a→compare a b = .gt:=fun a b h=>by rcases compare_int a b with ⟨h1,e⟩ | ⟨h1,e⟩ | ⟨h1,e⟩ <;>first | exact e | omega
 have eq_c:∀ a b:Int,a=b→compare a b = .eq:=fun a b h=>by rcases compare_int a b with ⟨h1,e⟩ | ⟨h1,e⟩ | ⟨h1,e⟩ <;>first | exact e | omega
 unfold isNaN at hx hy
 cases h1:k.decode x with
 | nan s f=>rw[h1] at hx;simp[Ieee.Datum.isNaN] at hx
 | infinity s =>
   cases h2:k.decode y with
   | nan s f=>rw[h2] at hy;simp[Ieee.Datum.isNaN] at hy
   | infinity t =>
     have e1:k.format.read x = .infinity s:=h1
     have e2:k.format.read y = .infinity t:=h2
     simp only[Ieee.Format.order,e1,e2,Ieee.Datum.order]
     rw[inf_pos h1,inf_pos h2]
     cases s <;>cases t <;>simp only[Bool.false_eq_true,if_false,if_true]
     ·rw[eq_c _ _ rfl];rfl
     ·rw[gt_c _ _ (by omega)];rfl
     ·rw[lt_c _ _ (by omega)];rfl
     ·rw[eq_c _ _ rfl];rfl
   | number t n j =>
     have e1:k.format.read x = .infinity s:=h1
     have e2:k.format.read y = .number t n j:=h2
     have:=fin_lt h2
     simp only[Ieee.Format.order,e1,e2,Ieee.Datum.order]
     rw[inf_pos h1]
     cases s <;>simp only[Bool.false_eq_true,if_false,if_true]
     ·rw[gt_c _ _ (by omega)]
     ·rw[lt_c _ _ (by omega)]
 | number s m i =>
   cases h2:k.decode y with
   | nan s f=>rw[h2] at hy;simp[Ieee.Datum.isNaN] at hy
   | infinity t =>
     have e1:k.format.read x = .number s m i:=h1
     have e2:k.format.read y = .infinity t:=h2
     have:=fin_lt h1
     simp only[Ieee.Format.order,e1,e2,Ieee.Datum.order]
     rw[inf_pos h2]
     cases t <;>simp only[Bool.false_eq_true,if_false,if_true]
     ·rw[lt_c _ _ (by omega)]
     ·rw[gt_c _ _ (by omega)]
   | number t n j =>
     obtain ⟨o1,o2,o3⟩:=order_val (read_val h1) (read_val h2)
     rcases compare_int (key k x) (key k y) with ⟨h3,e⟩ | ⟨h3,e⟩ | ⟨h3,e⟩
     ·rw[e];exact o1.2 (key_lt_val h1 h2 h3)
     ·rw[e];exact o2.2 (key_eq_val h1 h2 h3)
     ·rw[e];exact o3.2 (key_lt_val h2 h1 h3)
section
variable {k:FloatKind} {x y:Nat}
theorem order_nan (h:isNaN k x=true∨isNaN k y=true):k.format.order x y=none:=by
 unfold isNaN FloatKind.decode at h
 unfold Ieee.Format.order
 rcases h with h | h
 ·cases hr:k.format.read x with
  | nan s t=>simp[Ieee.Datum.order]
  | infinity s=>rw[hr] at h;cases h
  | number s m e=>rw[hr] at h;cases h
 ·cases hr:k.format.read y with
  | nan s t=>cases k.format.read x <;>simp[Ieee.Datum.order]
  | infinity s=>rw[hr] at h;cases h
  | number s m e=>rw[hr] at h;cases h
def num2 (k:FloatKind) (x y:Nat):Bool:=!isNaN k x && !isNaN k y
theorem order_num2:k.format.order x y=if num2 k x y then some (compare (key k x) (key k y)) else none:=by
 unfold num2
 cases hx:isNaN k x
 ·cases hy:isNaN k y
  ·exact order_key hx hy
  ·exact order_nan (.inr hy)
 ·exact order_nan (.inl hx)
theorem feq_key:feq k x y=(num2 k x y&&decide (key k x=key k y)):=by
 unfold feq
 rw[order_num2]
 cases num2 k x y
 ·rfl
 ·rcases compare_int (key k x) (key k y) with ⟨h,e⟩ | ⟨h,e⟩ | ⟨h,e⟩ <;>rw[if_pos rfl,e] <;>simp <;>omega
theorem fle_key:fle k x y=(num2 k x y&&decide (key k x≤key k y)):=by
 unfold fle
 rw[order_num2]
 cases num2 k x y
 ·rfl
 ·rcases compare_int (key k x) (key k y) with ⟨h,e⟩ | ⟨h,e⟩ | ⟨h,e⟩ <;>rw[if_pos rfl,e] <;>simp <;>omega
theorem fge_key:fge k x y=(num2 k x y&&decide (key k y≤key k x)):=by
 unfold fge
 rw[order_num2]
 cases num2 k x y
 ·rfl
 ·rcases compare_int (key k x) (key k y) with ⟨h,e⟩ | ⟨h,e⟩ | ⟨h,e⟩ <;>rw[if_pos rfl,e] <;>simp <;>omega
end
theorem key32 {x:Nat} (h:x<4294967296):key .f32 x=if x<2147483648 then (x:Int) else -((x:Int) - 2147483648):=by
 have hw:FloatKind.f32.format.signWeight=2147483648:=rfl
 unfold key negOf magOf
 rw[hw]
 by_cases c:x<2147483648
 ·rw[if_pos c,Nat.div_eq_of_lt c,Nat.mod_eq_of_lt c];rfl
 ·have:x / 2147483648=1:=by omega
  rw[if_neg c,this,if_pos (by decide)]
  omega
theorem nan32 {x:Nat}:isNaN .f32 x=decide (2139095040<x % 2147483648):=isNaN_f32 x
end Go.Desk
end
section
namespace Go.Desk
open Go
def flushM (x:Nat):Nat:=if x % 2147483648<8388608 then x / 2147483648 * 2147483648 else x
abbrev Filt:=Nat × Nat × Nat × Nat × Nat
abbrev Mem:=Nat × Nat × Nat × Nat
def fl? (b:Bool) (x:Nat):Nat:=if b then flushM x else x
def fstep (f:Filt) (form:Int) (b:Bool) (m:Mem) (x:Nat):Nat × Mem :=
 if form=0 then
  let y:=fl? b (fsub .f32 (fsub .f32 (fadd .f32 (fadd .f32 (fmul .f32 f.1 x) (fmul .f32 f.2.1 m.1)) (fmul .f32 f.2.2.1 m.2.1)) (fmul .f32 f.2.2.2.1 m.2.2.1)) (fmul .f32 f.2.2.2.2 m.2.2.2))
  (y,fl? b x,fl? b m.1,fl? b y,fl? b m.2.2.1)
 else if form=1 then
  let y:=fl? b (fadd .f32 (fmul .f32 f.1 x) m.1)
  (y,fl? b (fadd .f32 (fsub .f32 (fmul .f32 f.2.1 x) (fmul .f32 f.2.2.2.1 y)) m.2.1),fl? b (fsub .f32 (fmul .f32 f.2.2.1 x) (fmul .f32 f.2.2.2.2 y)),fl? b 0,fl? b 0)
 else
  let w:=fl? b (fsub .f32 (fsub .f32 x (fmul .f32 f.2.2.2.1 m.1)) (fmul .f32 f.2.2.2.2 m.2.1))
  (fl? b (fadd .f32 (fadd .f32 (fmul .f32 f.1 w) (fmul .f32 f.2.1 m.1)) (fmul .f32 f.2.2.1 m.2.1)),fl? b w,fl? b m.1,fl? b 0,fl? b 0)
section
variable {σ α β:Type} {f:σ→α→β × σ} {P:σ→Prop} {Q:α→Prop} {S:β→Prop}
end
end Go.Desk
end
section
namespace Go.Desk
open Go
section
variable {p zs:List (Int × Nat)} {z:Int × Nat}
end
def tookM (w:List Nat) (x:Nat):List Nat:=w.drop 1++[x]
end Go.Desk
end
section
namespace Go.Desk
open Go
def fin32 (x:Nat):Bool:=decide (x % 2147483648<2139095040)
theorem fin_num {x:Nat} (h:fin32 x=true):isNaN .f32 x=false:=by
 unfold fin32 at h;rw[nan32];simp at h ⊢;omega
theorem fin_read {x:Nat} (h:fin32 x=true):∃ s m e,FloatKind.f32.decode x = .number s m e:=by
 cases hd:FloatKind.f32.decode x with
 | number s m e=>exact ⟨s,m,e,rfl⟩
 | infinity s =>
   have h1:=(read_inf hd).1
   unfold fin32 at h
   have e1:FloatKind.f32.format.infRung=2139095040:=by decide
   have e2:magOf .f32 x=x % 2147483648:=rfl
   simp at h
   omega
 | nan s t =>
   have:=fin_num h
   unfold isNaN at this
   rw[hd] at this;cases this
theorem fsub_self {x:Nat} (h:fin32 x=true):fsub .f32 x x=0:=by
 obtain ⟨s,m,e,hd⟩:=fin_read h
 have hd:FloatKind.f32.format.read x = .number s m e:=hd
 unfold fsub Ieee.Format.sub
 rw[hd]
 simp only[Ieee.Datum.opposite,Ieee.Datum.sum]
 have e0:Ieee.signed s m (e - min e e).toNat+Ieee.signed (!s) m (e - min e e).toNat=0:=by
  unfold Ieee.signed
  cases s <;>simp <;>omega
 rw[e0]
 cases s <;>rfl
theorem sub_finite (x:Nat):feq .f32 (fsub .f32 x x) 0=fin32 x:=by
 cases h:fin32 x
 ·
  have hN:isNaN .f32 (fsub .f32 x x)=true:=by
   cases hd:FloatKind.f32.decode x with
   | number s m e =>
     have h1:=(read_fin hd).1
     have e1:FloatKind.f32.format.infRung=2139095040:=by decide
     have e2:magOf .f32 x=x % 2147483648:=rfl
     unfold fin32 at h
     simp at h
     omega
   | infinity s =>
     have hd:FloatKind.f32.format.read x = .infinity s:=hd
     unfold fsub Ieee.Format.sub
     rw[hd]
     cases s <;>decide
   | nan s t =>
     have hd:FloatKind.f32.format.read x = .nan s t:=hd
     unfold fsub Ieee.Format.sub
     rw[hd]
     simp only[Ieee.Datum.sum,Option.map_none]
     decide
  rw[feq_key];unfold num2;rw[hN];rfl
 ·rw[fsub_self h];decide
end Go.Desk
end
section
namespace Go.Desk
open Go
theorem sub_val {k:FloatKind} {x y:Nat} {a b B:Rat} (hx:Val k x a) (hy:Val k y b) (hB:Rep0 k B) (hf:B<p2 (topE k)) (h1:a - b≤B) (h2 : -B≤a - b) :
  ∃ R,Val k (fsub k x y) R∧Near k (a - b) R:=by
 obtain ⟨s,m,i,e1,rfl,-⟩:=hx
 obtain ⟨t,n,j,e2,rfl,-⟩:=hy
 have e1:k.format.read x = .number s m i:=e1
 have e2:k.format.read y = .number t n j:=e2
 generalize hb:min i j=base
 generalize ht:Ieee.signed s m (i - base).toNat+Ieee.signed (!t) n (j - base).toNat=total
 have hadd:fsub k x y=k.encode (.number (if total=0 then s && !t else total<0) total.natAbs base):=by
  simp only[fsub,Ieee.Format.sub,e1,e2,Ieee.Datum.opposite,Ieee.Datum.sum,Option.map_some,hb,ht]
  rfl
 have hneg:sg (!t) (mv n j) = -sg t (mv n j):=by cases t <;>simp[sg]
 have hval:sg (if total=0 then s && !t else decide (total<0)) (mv total.natAbs base)=sg s (mv m i) - sg t (mv n j):=by
  rw[Rat.sub_eq_add_neg,← hneg,total_val,← ht,Rat.intCast_add,Rat.add_mul,signed_val,signed_val]
  congr 2 <;>congr 1 <;>omega
 rw[hadd,← hval]
 exact write_val k _ _ _ hB (abs_le (mv_nonneg _ _) (by rw[hval];exact h1) (by rw[hval];exact h2)) hf
theorem write_lt2 (k:FloatKind) (s:Bool) (m:Nat) (e:Int):k.encode (.number s m e)<2 * k.format.signWeight:=write_lt k (by intro _ _ h;cases h)
theorem fadd_lt (k:FloatKind) (x y:Nat):fadd k x y<2 * k.format.signWeight:=by
 unfold fadd Ieee.Format.add
 cases h:(k.format.read x).sum (k.format.read y) with
 | none=>cases k <;>decide
 | some d=>exact write_lt k (fun s t e=>sum_not_nan h s t e)
theorem fmul_lt (k:FloatKind) (x y:Nat):fmul k x y<2 * k.format.signWeight:=by
 unfold fmul Ieee.Format.mul
 cases h:(k.format.read x).product (k.format.read y) with
 | none=>cases k <;>decide
 | some d=>exact write_lt k (fun s t e=>product_not_nan h s t e)
theorem nearest_lt (k:FloatKind) (n:Int):k.nearest n<2 * k.format.signWeight:=write_lt2 k _ _ _
theorem word_of_val {k:FloatKind} {x y:Nat} {a:Rat} (hx:x<2 * k.format.signWeight) (hy:y<2 * k.format.signWeight) (h1:Val k x a) (h2:Val k y a) (ha:a≠0):x=y:=by
 obtain ⟨s,m,i,e1,h3,-⟩:=h1
 obtain ⟨t,n,j,e2,h4,-⟩:=h2
 have p1:=mv_nonneg m i
 have p2:=mv_nonneg n j
 have hst:s=t:=by
  cases s <;>cases t <;>simp only[sg_true,sg_false] at h3 h4 <;>first | rfl | (exfalso;grind)
 subst hst
 refine word_inj hx hy e1 e2 ?_
 cases s <;>simp only[sg_true,sg_false] at h3 h4 <;>grind
theorem rep_nat (k:FloatKind) {B:Nat} (hB:B≤2 * k.format.binade):Rep0 k (B:Rat):=by
 refine ⟨B,0,hB,by cases k <;>decide,?_⟩
 unfold mv;rw[p2_zero,Rat.mul_one]
theorem nat_top (k:FloatKind) {B:Nat} (hB:B≤2 * k.format.binade):(B:Rat)<p2 (topE k):=by
 have h1:(B:Rat)≤((2 * k.format.binade:Nat):Rat):=by exact_mod_cast hB
 have h2:((2 * k.format.binade:Nat):Rat)<p2 (topE k):=by
  have:∃ j:Nat,2 * k.format.binade=2 ^ j∧(j:Int)<topE k:=by
   cases k
   ·exact ⟨24,by decide,by decide⟩
   ·exact ⟨53,by decide,by decide⟩
  obtain ⟨j,e,h⟩:=this
  rw[e,← p2_nat]
  exact p2_lt h
 exact rlt h1 h2
theorem int_rep {k:FloatKind} {n:Int} (hn:n.natAbs≤2 * k.format.binade):Rep k (n:Rat):=(int_val hn).rep
theorem int_abs {n:Int}:(n:Rat)≤((n.natAbs:Nat):Rat) ∧ -((n.natAbs:Nat):Rat)≤(n:Rat):=by
 have h1:n≤((n.natAbs:Nat):Int):=by omega
 have h2 : -((n.natAbs:Nat):Int)≤n:=by omega
 have e:((n.natAbs:Nat):Rat)=(((n.natAbs:Nat):Int):Rat):=(Rat.intCast_natCast _).symm
 rw[e]
 refine ⟨Rat.intCast_le_intCast.2 h1,?_⟩
 rw[← Rat.intCast_neg]
 exact Rat.intCast_le_intCast.2 h2
theorem nearest_zero (k:FloatKind):k.nearest 0=0:=by cases k <;>decide
theorem int_add {k:FloatKind} {a b:Int} (ha:a.natAbs≤2 * k.format.binade) (hb:b.natAbs≤2 * k.format.binade) (hab:(a+b).natAbs≤2 * k.format.binade):fadd k (k.nearest a) (k.nearest b)=k.nearest (a+b):=by
 have va:=int_val (k:=k) ha
 have vb:=int_val (k:=k) hb
 by_cases h0:a+b=0
 ·rw[h0,nearest_zero]
  obtain ⟨s,m,i,e1,h1,-⟩:=va
  obtain ⟨t,n,j,e2,h2,-⟩:=vb
  have p1:=mv_nonneg m i
  have p2' :=mv_nonneg n j
  have hbv:(b:Rat) = -(a:Rat):=by
   have:b = -a:=by omega
   rw[this,Rat.intCast_neg]
  have hst:(s&&t)=false:=by
   by_cases h:a=0
   ·subst h
    rw[nearest_zero] at e1
    have:k.decode 0 = .number false 0 k.format.leastPlace:=by cases k <;>decide
    rw[this] at e1
    cases e1;rfl
   ·have hne:(a:Rat)≠0:=by exact_mod_cast h
    cases s <;>cases t <;>simp only[sg_true,sg_false] at h1 h2 <;>first | rfl | (exfalso;grind)
  have e1:k.format.read (k.nearest a) = .number s m i:=e1
  have e2:k.format.read (k.nearest b) = .number t n j:=e2
  generalize hbase:min i j=base
  have ht:Ieee.signed s m (i - base).toNat+Ieee.signed t n (j - base).toNat=0:=by
   have h3:((Ieee.signed s m (i - base).toNat+Ieee.signed t n (j - base).toNat:Int):Rat) * p2 base=0:=by
    rw[Rat.intCast_add,Rat.add_mul,signed_val,signed_val]
    rw[show base+((i - base).toNat:Int)=i by omega,show base+((j - base).toNat:Int)=j by omega,← h1,← h2,hbv]
    grind
   have h4:=p2_pos base
   have h5:((Ieee.signed s m (i - base).toNat+Ieee.signed t n (j - base).toNat:Int):Rat)=0:=by
    rcases Rat.mul_eq_zero.1 h3 with h | h
    ·exact h
    ·rw[h] at h4;exact absurd h4 (by decide)
   exact_mod_cast h5
  simp only[fadd,Ieee.Format.add,e1,e2,Ieee.Datum.sum,Option.map_some,hbase,ht,hst]
  rfl
 ·have hv:(a:Rat)+(b:Rat)=((a+b:Int):Rat):=(Rat.intCast_add _ _).symm
  obtain ⟨h1,h2⟩:=int_abs (n:=a+b)
  obtain ⟨R,h3,h4⟩:=add_val va vb (rep_nat k hab) (nat_top k hab) (by rw[hv];exact h1) (by rw[hv];exact h2)
  rw[hv] at h4
  have h5:=h3.near_eq h4 (int_rep hab)
  exact word_of_val (fadd_lt _ _ _) (nearest_lt _ _) h5 (int_val hab) (by exact_mod_cast h0)
def Bd (k:FloatKind) (x:Nat) (B:Nat):Prop:=∃ v:Rat,Val k x v ∧ -(B:Rat)≤v∧v≤(B:Rat)
theorem Near.bd {k:FloatKind} {v R:Rat} {B:Nat} (h:Near k v R) (hB:B≤2 * k.format.binade) (h1:v≤(B:Rat)) (h2 : -(B:Rat)≤v) : -(B:Rat)≤R∧R≤(B:Rat) :=
 ⟨(h _ (rep_nat k hB).neg).2 h2,(h _ (rep_nat k hB).rep).1 h1⟩
theorem Bd.add {k:FloatKind} {x y A B:Nat} (hx:Bd k x A) (hy:Bd k y B) (h:A+B≤2 * k.format.binade):Bd k (fadd k x y) (A+B):=by
 obtain ⟨v,h1,h2,h3⟩:=hx
 obtain ⟨w,h4,h5,h6⟩:=hy
 have e:=Rat.natCast_add A B
 have g1:v+w≤((A+B:Nat):Rat):=by rw[e];grind
 have g2 : -((A+B:Nat):Rat)≤v+w:=by rw[e];grind
 obtain ⟨R,q1,q2⟩:=add_val h1 h4 (rep_nat k h) (nat_top k h) g1 g2
 exact ⟨R,q1,q2.bd h g1 g2⟩
theorem Bd.sub {k:FloatKind} {x y A B:Nat} (hx:Bd k x A) (hy:Bd k y B) (h:A+B≤2 * k.format.binade):Bd k (fsub k x y) (A+B):=by
 obtain ⟨v,h1,h2,h3⟩:=hx
 obtain ⟨w,h4,h5,h6⟩:=hy
 have e:=Rat.natCast_add A B
 have g1:v - w≤((A+B:Nat):Rat):=by rw[e];grind
 have g2 : -((A+B:Nat):Rat)≤v - w:=by rw[e];grind
 obtain ⟨R,q1,q2⟩:=sub_val h1 h4 (rep_nat k h) (nat_top k h) g1 g2
 exact ⟨R,q1,q2.bd h g1 g2⟩
theorem mul_between {v w A B:Rat} (hA:0≤A) (hB:0≤B) (h1 : -A≤v) (h2:v≤A) (h3 : -B≤w) (h4:w≤B) : -(A * B)≤v * w∧v * w≤A * B:=by
 have key:∀ v w:Rat,0≤v→0≤w→v≤A→w≤B→0≤v * w∧v * w≤A * B:=fun v w a b c d =>
  ⟨Rat.mul_nonneg a b,Rat.le_trans (Rat.mul_le_mul_of_nonneg_right c b) (Rat.mul_le_mul_of_nonneg_left d hA)⟩
 rcases (Rat.le_total:(0:Rat)≤v∨v≤0) with hv | hv <;>rcases (Rat.le_total:(0:Rat)≤w∨w≤0) with hw | hw
 ·have:=key v w hv hw h2 h4;grind
 ·have:=key v (-w) hv (by grind) h2 (by grind);grind
 ·have:=key (-v) w (by grind) hw (by grind) h4;grind
 ·have:=key (-v) (-w) (by grind) (by grind) (by grind) (by grind);grind
theorem Bd.mul {k:FloatKind} {x y A B:Nat} (hx:Bd k x A) (hy:Bd k y B) (h:A * B≤2 * k.format.binade):Bd k (fmul k x y) (A * B):=by
 obtain ⟨v,h1,h2,h3⟩:=hx
 obtain ⟨w,h4,h5,h6⟩:=hy
 have e:=Rat.natCast_mul A B
 have hA:(0:Rat)≤(A:Rat):=by exact_mod_cast Nat.zero_le A
 have hB:(0:Rat)≤(B:Rat):=by exact_mod_cast Nat.zero_le B
 obtain ⟨g2,g1⟩:=mul_between hA hB h2 h3 h5 h6
 rw[← e] at g1 g2
 obtain ⟨R,q1,q2⟩:=mul_val h1 h4 (rep_nat k h) (nat_top k h) g1 g2
 exact ⟨R,q1,q2.bd h g1 g2⟩
theorem Bd.div {k:FloatKind} {x y A:Nat} {w:Rat} (hx:Bd k x A) (hy:Val k y w) (hw:1≤w) (h:A≤2 * k.format.binade):Bd k (fdiv k x y) A:=by
 obtain ⟨v,h1,h2,h3⟩:=hx
 have hA:(0:Rat)≤(A:Rat):=by exact_mod_cast Nat.zero_le A
 have hw0:w≠0:=by grind
 have hpos:0<w:=by grind
 have hq:v / w * w=v:=Rat.div_mul_cancel hw0
 have hAw:(A:Rat) * 1≤(A:Rat) * w:=Rat.mul_le_mul_of_nonneg_left hw hA
 have g1:v / w≤(A:Rat):=by
  refine Rat.not_lt.1 fun h => ?_
  have:=(Rat.mul_lt_mul_right hpos).2 h
  grind
 have g2 : -(A:Rat)≤v / w:=by
  refine Rat.not_lt.1 fun h => ?_
  have:=(Rat.mul_lt_mul_right hpos).2 h
  grind
 obtain ⟨R,q1,q2⟩:=div_val h1 hy hw0 (rep_nat k h) (nat_top k h) g1 g2
 exact ⟨R,q1,q2.bd h g1 g2⟩
theorem Bd.mono {k:FloatKind} {x A B:Nat} (h:Bd k x A) (hAB:A≤B):Bd k x B:=by
 obtain ⟨v,h1,h2,h3⟩:=h
 have:(A:Rat)≤(B:Rat):=by exact_mod_cast hAB
 exact ⟨v,h1,by grind,by grind⟩
theorem Bd.int {k:FloatKind} {n:Int} {B:Nat} (h:n.natAbs≤B) (hB:B≤2 * k.format.binade):Bd k (k.nearest n) B:=by
 obtain ⟨h1,h2⟩:=int_abs (n:=n)
 have:((n.natAbs:Nat):Rat)≤(B:Rat):=by exact_mod_cast h
 exact ⟨_,int_val (by omega),by grind,by grind⟩
theorem Bd.even {x B:Nat} (h:Bd .f64 x B) (hB:B≤2 * FloatKind.f64.format.binade):Bd .f64 (integralF .even x) B:=by
 obtain ⟨v,⟨s,m,i,e1,rfl,-⟩,h2,h3⟩:=h
 have hv:=mv_nonneg m i
 have hmv:mv m i≤(B:Rat):=by cases s <;>simp only[sg_true,sg_false] at h2 h3 <;>grind
 have hn:m <<< i.toNat≤B * 2 ^ (-i).toNat:=by
  rw[Nat.shiftLeft_eq]
  have h4:mv (m * 2 ^ i.toNat) (-((-i).toNat:Int))≤mv (B * 2 ^ (-i).toNat) (-((-i).toNat:Int)):=by
   rw[mv_shift,mv_shift]
   rw[show -((-i).toNat:Int)+(i.toNat:Int)=i by omega,show -((-i).toNat:Int)+((-i).toNat:Int)=0 by omega]
   have e0:mv B 0=(B:Rat):=by unfold mv;rw[p2_zero,Rat.mul_one]
   rw[e0];exact hmv
  exact mv_le.1 h4
 have hc:=(cut_bounds s (m <<< i.toNat) (-i).toNat B).1 hn
 have e2:integralF .even x=FloatKind.f64.encode (.number s (Ieee.Toward.cut .even s (m <<< i.toNat) (-i).toNat) 0):=by
  unfold integralF;rw[e1];rfl
 rw[e2]
 generalize Ieee.Toward.cut .even s (m <<< i.toNat) (-i).toNat=c at *
 have hcb:c≤2 * FloatKind.f64.format.binade:=by omega
 have e3:mv c 0=(c:Rat):=by unfold mv;rw[p2_zero,Rat.mul_one]
 have e4:(c:Rat)≤(B:Rat):=by exact_mod_cast hc
 have e5:(0:Rat)≤(c:Rat):=by exact_mod_cast Nat.zero_le c
 obtain ⟨m',e',q1,q2⟩:=exact_write .f64 s (m:=c) (e:=0) (by rw[e3];exact rep_nat .f64 hcb) (by rw[e3];exact nat_top .f64 hcb)
 refine ⟨_,read_val q1,?_,?_⟩ <;>rw[q2,e3] <;>cases s <;>simp only[sg_true,sg_false] <;>grind
end Go.Desk
end
section
namespace Go.Desk
open Go
theorem fin_val {x:Nat} (h:fin32 x=true):Val .f32 x (fval .f32 x):=by
 obtain ⟨s,m,e,hd⟩:=fin_read h
 have:=read_val hd
 unfold fval;rw[hd];exact this
theorem Val.fval {k:FloatKind} {x:Nat} {v:Rat} (h:Val k x v):Go.Desk.fval k x=v:=by
 obtain ⟨s,m,e,h1,h2,-⟩:=h
 unfold Go.Desk.fval;rw[h1];exact h2.symm
theorem Val.fin {x:Nat} {v:Rat} (h:Val .f32 x v):fin32 x=true:=by
 obtain ⟨s,m,e,h1,-⟩:=h
 have:=(read_fin h1).1
 unfold fin32
 exact decide_eq_true this
theorem size_val {x:Nat} {v:Rat} (hx:W32 x) (h:Val .f32 x v):(0≤v→Val .f32 (size32 x) v)∧(v≤0→Val .f32 (size32 x) (-v)):=by
 have hn:=h.num
 obtain ⟨s,m,e,h1,rfl,h2,h3⟩:=h
 have hs:size32 x=x % 2147483648:=by unfold size32;rw[hn];rfl
 have h4:FloatKind.f32.decode (size32 x) = .number false m e:=by rw[hs];exact decode_size.1 s m e h1
 have h5:=read_val h4
 have hnn:=mv_nonneg m e
 rw[sg_false] at h5
 constructor
 ·intro h
  cases s <;>simp only[sg_true,sg_false] at h ⊢
  ·exact h5
  ·have:mv m e=0:=by grind
   rw[this] at h5 ⊢;simpa using h5
 ·intro h
  cases s <;>simp only[sg_true,sg_false] at h ⊢
  ·have:mv m e=0:=by grind
   rw[this] at h5 ⊢;simpa using h5
  ·rw[Rat.neg_neg];exact h5
def plainOk (x:Nat):Bool:=fin32 x&&(x % 2147483648==0||(decide (1031798784≤x % 2147483648)&&decide (x % 2147483648≤1091829760)))
theorem plain_tab:∀ m:Nat,m<129→(plainOk (fdiv .f32 (FloatKind.f32.nearest ((m:Int) - 64)) 1088421888)&&plainOk (fdiv .f32 (FloatKind.f32.nearest ((m:Int) - 64)) 1098907648))=true:=by decide +kernel
theorem Plain.ok {x:Nat} (h:Plain x):plainOk x=true:=by
 obtain ⟨m,hm,h⟩:=h
 obtain ⟨k,hk⟩:=Int.eq_ofNat_of_zero_le (show 0≤m+64 by omega)
 have hm':m=(k:Int) - 64:=by omega
 have:=plain_tab k (by omega)
 rw[← hm',Bool.and_eq_true] at this
 rcases h with rfl | rfl
 ·exact this.1
 ·exact this.2
theorem Plain.fin {x:Nat} (h:Plain x):fin32 x=true:=by
 have:=h.ok
 unfold plainOk at this
 rw[Bool.and_eq_true] at this
 exact this.1
theorem val_const (x:Nat) (s:Bool) (m:Nat) (e:Int) (h:FloatKind.f32.decode x = .number s m e):Val .f32 x (sg s (mv m e)):=read_val h
theorem Plain.val {x:Nat} (h:Plain x):∃ v,Val .f32 (size32 x) v∧(v=0∨1 / 16≤v)∧0≤v∧v≤10∧(fval .f32 x=v∨fval .f32 x = -v):=by
 have hf:=h.fin
 have hok:=h.ok
 have hw:=h.w32
 have hv:=fin_val hf
 obtain ⟨s1,s2⟩:=size_val hw hv
 have hn:=fin_num hf
 have hs:size32 x=x % 2147483648:=by unfold size32;rw[hn];rfl
 have hex:∃ v,Val .f32 (size32 x) v∧0≤v∧(fval .f32 x=v∨fval .f32 x = -v):=by
  rcases (Rat.le_total:(0:Rat)≤fval .f32 x∨fval .f32 x≤0) with h1 | h1
  ·exact ⟨_,s1 h1,h1,.inl rfl⟩
  ·exact ⟨_,s2 h1,by grind,.inr (by grind)⟩
 obtain ⟨v,q1,q2,q3⟩:=hex
 refine ⟨v,q1,?_,q2,?_,q3⟩
 ·unfold plainOk at hok
  simp only[Bool.and_eq_true,Bool.or_eq_true,beq_iff_eq,decide_eq_true_eq] at hok
  rcases hok.2 with h0 | ⟨h1,-⟩
  ·rw[← hs] at h0
   rw[h0] at q1
   exact .inl (q1.inj (val_zero .f32))
  ·refine .inr ?_
   have hc:Val .f32 1031798784 (1 / 16):=by
    have:=val_const 1031798784 false (2 ^ 23) (-27) (by decide)
    rw[sg_false,mv_pow] at this
    have e:p2 (-27+((23:Nat):Int)) * 16=1:=by
     have h4:=p2_add (-27+((23:Nat):Int)) 4
     have h16:p2 4=16:=by have:=p2_nat 4;rw[show ((4:Nat):Int)=4 from rfl] at this;rw[this];rfl
     rw[h16] at h4;rw[← h4,show (-27:Int)+((23:Nat):Int)+4=0 by decide,p2_zero]
    have e2:p2 (-27+((23:Nat):Int))=1 / 16:=by grind
    rw[e2] at this;exact this
   have:=(fge_val q1 hc).1 (by
    rw[fge_key];unfold num2
    rw[q1.num,hc.num,key32 (by omega),key32 (by omega),if_pos (by omega),if_pos (by omega)]
    simp;omega)
   exact this
 ·unfold plainOk at hok
  simp only[Bool.and_eq_true,Bool.or_eq_true,beq_iff_eq,decide_eq_true_eq] at hok
  have hle:x % 2147483648≤1091829760:=by rcases hok.2 with h0 | ⟨-,h1⟩ <;>omega
  have hc:Val .f32 1092616192 10:=by
   have:=int_val (k:=.f32) (n:=10) (by decide)
   rwa [show FloatKind.f32.nearest 10=1092616192 by decide] at this
  refine (fle_val q1 hc).1 ?_
  rw[fle_key];unfold num2
  rw[q1.num,hc.num,key32 (by omega),key32 (by omega),if_pos (by omega),if_pos (by omega)]
  simp;omega
end Go.Desk
end
section
namespace Go.Desk
open Go
def levelM (at_ re:Nat) (l x:Nat):Nat:=flushM (fadd .f32 l (fmul .f32 (if fgt .f32 (size32 x) l then at_ else re) (fsub .f32 (size32 x) l)))
def gainM (l t r:Nat):Nat:=if fgt .f32 l t then fdiv .f32 (fadd .f32 t (fdiv .f32 (fsub .f32 l t) r)) l else 1065353216
def duckStep (a r t q:Nat) (l:Nat) (x:Nat × Nat):Nat × Nat:=(fmul .f32 x.1 (gainM (levelM a r l x.2) t q),levelM a r l x.2)
theorem binade32:2 * FloatKind.f32.format.binade=16777216:=by decide
end Go.Desk
end
section
namespace Go.Desk
open Go
def headM (w:List Nat):Nat:=w.getD 0 0
def AllW (w:List Nat):Prop:=∀ y∈w,W32 y
theorem int_mul {a b:Int} (ha:a.natAbs≤16777216) (hb:b.natAbs≤16777216) (hab:(a * b).natAbs≤16777216) (h0:a * b≠0):fmul .f32 (FloatKind.f32.nearest a) (FloatKind.f32.nearest b)=FloatKind.f32.nearest (a * b):=by
 have b32:2 * FloatKind.f32.format.binade=16777216:=binade32
 have va:=int_val (k:=.f32) (n:=a) (by rw[b32];exact ha)
 have vb:=int_val (k:=.f32) (n:=b) (by rw[b32];exact hb)
 have hab':(a * b).natAbs≤2 * FloatKind.f32.format.binade:=by rw[b32];exact hab
 have hv:(a:Rat) * (b:Rat)=((a * b:Int):Rat):=(Rat.intCast_mul _ _).symm
 obtain ⟨h1,h2⟩:=int_abs (n:=a * b)
 obtain ⟨R,h3,h4⟩:=mul_val va vb (rep_nat .f32 hab') (nat_top .f32 hab') (by rw[hv];exact h1) (by rw[hv];exact h2)
 rw[hv] at h4
 have h5:=h3.near_eq h4 (int_rep hab')
 exact word_of_val (fmul_lt _ _ _) (nearest_lt _ _) h5 (int_val hab') (by exact_mod_cast h0)
theorem nearest_one:FloatKind.f32.nearest 1=1065353216:=by decide
theorem one_mul {a:Int} (h : -1000000≤a∧a≤1000000):fmul .f32 1065353216 (FloatKind.f32.nearest a)=FloatKind.f32.nearest a:=by
 by_cases h0:a=0
 ·subst h0;decide
 ·have:=int_mul (a:=1) (b:=a) (by decide) (by omega) (by omega) (by omega)
  rw[nearest_one,Int.one_mul] at this
  exact this
theorem small_bin {a:Int} (h : -1000000≤a∧a≤1000000):a.natAbs≤2 * FloatKind.f32.format.binade:=by
 rw[show 2 * FloatKind.f32.format.binade=16777216 from binade32];omega
theorem add_zero {a:Int} (h : -1000000≤a∧a≤1000000):fadd .f32 (FloatKind.f32.nearest a) 0=FloatKind.f32.nearest a:=by
 have:=int_add (k:=.f32) (a:=a) (b:=0) (small_bin h) (by decide) (by simpa using small_bin h)
 rw[nearest_zero] at this
 simpa using this
end Go.Desk
namespace Go.Desk
open Go
end Go.Desk
end
section
namespace Go.Proofs.Ytdobhipbgpiceaa.DS
open Go Go.Desk Go.Shelf Go.RowKit Go.Lib Go.Sort
set_option linter.unusedVariables false
theorem run_clear_rows {P:Program} (w:World) (t e ty:TypeId) (z:Value) (ht:P.underlying t=some (.slice e)) (hv:∀ w,(zeroValue e).run P w = .ok z w) (b o n c:Nat) (hn:0<n)
  (h1:∀ u∈(Builtin.zeroCells z.cells n).toList,u.oneCell'=true)
  (hc:∀ j,j<(Builtin.zeroCells z.cells n).toList.length→(w.cell? ⟨b,o+j,none⟩).isSome=true) (hf:∀ j,j<(Builtin.zeroCells z.cells n).toList.length→w.frozen? ⟨b,o+j,none⟩=false) :
  (Builtin.clear_ #[t] ty #[.slice (some ⟨b,o,none⟩) n c]).run P w = .ok (.tuple #[]) (w.setCells b o (Builtin.zeroCells z.cells n).toList):=by
 have hst:=run_storeCells_cells (P:=P) b o (Builtin.zeroCells z.cells n).toList 0 w (by simpa using hc) (by simpa using hf) h1
 simp only[Nat.add_zero] at hst
 obtain ⟨m,rfl⟩:∃ m,n=m+1:=⟨n - 1,by omega⟩
 simp[Builtin.clear_,run_underlying ht,hv,hst]
theorem setCells_wset:∀ (vs:List Value) (w:World) (b o:Nat),w.setCells b o vs=wset w b o vs
 | [],_,_,_=>rfl
 | v::vs,w,b,o=>setCells_wset vs (w.setCell ⟨b,o,none⟩ v) b (o+1)
theorem zeroCells_len (c:Array Value) (k W:Nat) (h:c.size=W):(Builtin.zeroCells c k).toList.length=k * W:=by simp[Builtin.zeroCells,h]
theorem zeroCells_one (c:Array Value) (k:Nat) (h:∀ v∈c.toList,v.oneCell'=true):∀ u∈(Builtin.zeroCells c k).toList,u.oneCell'=true:=by
 intro u hu
 simp only[Builtin.zeroCells,Array.toList_map,List.mem_map] at hu
 obtain ⟨i,hi,rfl⟩:=hu
 have hi:i<k * c.size:=by simpa using hi
 have hs:0<c.size:=by
  rcases Nat.eq_zero_or_pos c.size with h0 | h0
  ·rw[h0] at hi;omega
  ·exact h0
 have hm:i % c.size<c.size:=Nat.mod_lt _ hs
 refine h _ ?_
 rw[getElem!_pos c (i % c.size) hm]
 exact Array.getElem_mem_toList hm
set_option maxHeartbeats 4000000 in
set_option maxRecDepth 1000000 in
theorem same85 (w:World) (blk off n cap i:Nat) (hcap:n≤cap) (hj:i≤n) :
  Calls Try.prog 85 #[.slice (some ⟨blk,off,none⟩) n cap,.int .i64 i,.int .i64 i] w fun e w'=>e = .returned (.slice (some ⟨blk,off,none⟩) n cap)∧w'=w:=by
 go_enter Try.func85,Try.ntmps85
 go_wp2
 all_goals (go_ret;exact ⟨rfl,rfl⟩)
set_option maxHeartbeats 4000000 in
set_option maxRecDepth 1000000 in
theorem none85 (w:World) :
  Calls Try.prog 85 #[.slice none 0 0,.int .i64 (0:Nat),.int .i64 (0:Nat)] w fun e w'=>e = .returned (.slice none 0 0)∧w'=w:=by
 go_enter Try.func85,Try.ntmps85
 go_wp2
 all_goals (go_ret;exact ⟨rfl,rfl⟩)
set_option maxHeartbeats 4000000 in
set_option maxRecDepth 1000000 in
theorem move85 (w:World) (blk off n cap i j:Nat) (vs:List Value) (z:Value) (zs:List Value) (hz:∀ w,(zeroValue 54).run Try.prog w = .ok z w) (hzs:(Builtin.zeroCells z.cells (j - i)).toList=zs) (hzl:zs.length=(j - i) * 3) (hz1:∀ u∈zs,u.oneCell'=true)
  (i0:TypeInfo) (hi0:Try.prog.info? 54=some i0) (hsz:i0.size=3)
  (hl:vs.length=n * 3) (hc:Hid (∀ t u,vs[t]?=some u→w.cell? ⟨blk,off+t,none⟩=some u)) (hf:Hid (∀ t,t<vs.length→w.frozen? ⟨blk,off+t,none⟩=false)) (h1:Hid (∀ u∈vs,u.oneCell'=true)) (hcap:n≤cap) (hlt:i<j) (hj:j≤n) :
  Calls Try.prog 85 #[.slice (some ⟨blk,off,none⟩) n cap,.int .i64 i,.int .i64 j] w fun e w'=>e = .returned (.slice (some ⟨blk,off,none⟩) (n - (j - i)) cap)∧w'=((w.drew.setCells blk (off+i * 3) (vs.drop (j * 3))).setCells blk (off+(i+(n - j)) * 3) zs):=by
 obtain ⟨news,hnews⟩:∃ news,news=vs.drop (j * 3):=⟨_,rfl⟩
 have hlen:news.length=n * 3 - j * 3:=by rw[hnews];simp[hl]
 have hget:∀ t u,news[t]?=some u→w.drew.cell? ⟨blk,off+(j * 3+t),none⟩=some u:=by
  intro t u hu
  rw[hnews,List.getElem?_drop] at hu
  exact hc.out _ u hu
 obtain ⟨A,hA,hsrc⟩:∃ A:Addr,(if cap=j then some (⟨blk,off,none⟩:Addr) else some ⟨blk,off+j * 3,none⟩)=some A∧Hid (∀ t u,news[t]?=some u→w.drew.cell? (A.add t)=some u):=by
  by_cases h:cap=j
  ·refine ⟨⟨blk,off,none⟩,by simp[h],fun t u hu => ?_⟩
   have h0:news.length=0:=by rw[hlen];omega
   rw[List.length_eq_zero_iff.1 h0] at hu
   simp at hu
  ·refine ⟨⟨blk,off+j * 3,none⟩,by simp[h],fun t u hu => ?_⟩
   rw[Addr.add_lit,show off+j * 3+t=off+(j * 3+t) by omega]
   exact hget t u hu
 have s1:Hid (news.length=(n - j) * 3):=by show news.length=_;rw[hlen];omega
 have s2:Hid (∀ u∈news,u.oneCell'=true):=fun u hu=>h1.out u (by rw[hnews] at hu;exact List.mem_of_mem_drop hu)
 have hcs:∀ t,t<n * 3→(w.drew.cell? ⟨blk,off+t,none⟩).isSome=true:=by
  intro t ht
  have:=hc.out t vs[t] (List.getElem?_eq_getElem (by omega))
  show (w.cell? _).isSome=true
  rw[this];rfl
 have hfs:∀ t,t<n * 3→w.drew.frozen? ⟨blk,off+t,none⟩=false:=fun t ht=>hf.out t (by omega)
 have s3:Hid (∀ t,t<news.length→(w.drew.cell? ⟨blk,off+i * 3+t,none⟩).isSome=true∧w.drew.frozen? ⟨blk,off+i * 3+t,none⟩=false):=by
  intro t ht
  rw[hlen] at ht
  rw[Nat.add_assoc]
  exact ⟨hcs _ (by omega),hfs _ (by omega)⟩
 obtain ⟨W1,hW1⟩:∃ W1,W1=w.drew.setCells blk (off+i * 3) news:=⟨_,rfl⟩
 have hk:n - (i+(n - j))=j - i:=by omega
 have hcl:∀ ty,(Builtin.clear_ #[35] ty #[.slice (some ⟨blk,off+(i+(n - j)) * 3,none⟩) (n - (i+(n - j))) (cap - (i+(n - j)))]).run Try.prog W1 = .ok (.tuple #[]) (W1.setCells blk (off+(i+(n - j)) * 3) zs):=by
  intro ty
  rw[hk]
  have:=run_clear_rows (P:=Try.prog) W1 35 54 ty z Try.underlying35 hz blk (off+(i+(n - j)) * 3) (j - i) (cap - (i+(n - j))) (by omega) (by rw[hzs];exact hz1)
   (by rw[hzs,hzl];intro t ht;rw[hW1];refine World.isSome_setCells blk _ _ _ _ ?_;rw[Nat.add_assoc];exact hcs _ (by omega))
   (by rw[hzs,hzl];intro t ht;rw[hW1,World.frozen?_setCells,Nat.add_assoc];exact hfs _ (by omega))
  rw[hzs] at this
  exact this
 have X:Aside (W1=w.drew.setCells blk (off+i * 3) news):=hW1
 have hW:Hid (W1=w.drew.setCells blk (off+i * 3) news):=hW1
 have hnw:Hid (news=vs.drop (j * 3)):=hnews
 have hic:i≤cap:=by omega
 have hjc:j≤cap:=by omega
 clear hW1 hget hnews hlen hcs hfs hc hf h1 hz hzs hz1 hzl hk
 have mixed:Try.prog.follows .mixedOrders=true:=Try.checked.mixed
 go_enter Try.func85,Try.ntmps85
 go_wp2_with fail
 go_region_law_o (refine step_append_room rfl (.tmp 22) (.tmp 25) 35 rfl 54 i0 3 Try.underlying35 hi0 hsz blk off i cap (by simp[Act.eval,Act.put]) A (n - j) (cap - j) news (by simp[Act.eval,Act.put]) s1.out hsrc.out s2.out (by omega) s3.out ?_;rw[← hW.out])
 go_wp2
 go_ret
 refine ⟨by rw[show n - (j - i)=i+(n - j) by omega];rfl,?_⟩
 rw[X.out,hnw.out]
theorem run85:DelRun Try.prog 85 3 where
 enter:=fun xs w=>by
  have h1 : Try.f85.name ≠ "runtime.NumGoroutine" := by
   have : (Try.f85.name == "runtime.NumGoroutine") = false := by kernel_rfl
   simpa using this
  have hs:Try.f85.body.isSome=true:=by kernel_rfl
  obtain ⟨c,hb⟩:=Option.isSome_iff_exists.1 hs
  simp[callFunc,Try.func85,h1,hb]
 same:=fun w a n cap i hn hi ha hs=>by
  cases a with
  | none =>
    obtain ⟨rfl,rfl⟩:=ha rfl
    obtain rfl:i=0:=by omega
    exact none85 w
  | some x =>
    obtain ⟨b,off,sp⟩:=x
    have:sp=none:=hs _ rfl
    subst this
    exact same85 w b off n cap i hn hi
 move:=fun w b off n cap i j vs hl hc hf h1 hn hij hj=>by
  refine ⟨(Builtin.zeroCells (Value.cells (.agg #[.int .i64 0,.int .i64 0,.slice none 0 0])) (j - i)).toList,zeroCells_len _ _ _ (by rfl),?_⟩
  refine (move85 w b off n cap i j vs (.agg #[.int .i64 0,.int .i64 0,.slice none 0 0]) _ Try.zeroValue54 rfl (zeroCells_len _ _ _ (by rfl)) (zeroCells_one _ _ (by simp[Value.cells,Value.oneCell'])) Try.t54 (by kernel_rfl) (by kernel_rfl) hl hc hf h1 hn hij hj).mono ?_
  rintro e w' ⟨rfl,rfl⟩
  rw[setCells_wset,setCells_wset]
  exact ⟨rfl,rfl⟩
theorem ok85 {E:Env}:FnTab Try.prog E 85 (.sem [.io,.val,.val] (delH 3)):=del_ok run85
abbrev One:={v:Value // v.oneCell'=true}
instance:Inhabited One:=⟨⟨.bool true,rfl⟩⟩
theorem rev_world {α:Type} [Inhabited α] (enc:α→Value) (w:World) (b off:Nat) (d d':Array α) (hH:Holds enc w b off d) (hs:d'.size=d.size) (q:Nat):putRow enc (Sort.ahead w q) b off d'=wset { w with drawn:=w.drawn+q } b off (d'.toList.map enc):=by
 have h:=putRow_setCells enc (Sort.ahead w q) b off d'.toList d 0 (by simp[hs])
 rw[putRow_self enc _ b off d (holds_ahead enc w q b off d hH)] at h
 have hl:lay d 0 d'.toList=d' :=by
  apply Array.ext_getElem?
  intro j
  rw[lay_get? _ _ _ _ (by simp[hs])]
  by_cases hj:j<d'.size
  ·rw[if_pos ⟨by omega,by simpa using hj⟩];simp
  ·rw[if_neg (by simp;omega)]
   rw[Array.getElem?_eq_none (by omega),Array.getElem?_eq_none (by omega)]
 rw[hl,Nat.add_zero] at h
 rw[← h]
 exact setCells_wset _ _ _ _
set_option maxHeartbeats 1600000 in
set_option maxRecDepth 1000000 in
theorem rev97 {α:Type} [Inhabited α] (enc:α→Value) (h1:OneCell enc) (blk off cap:Nat) (d:Array α) (w:World) (hH:Holds enc w blk off d) (hsz:d.size≤9223372036854775807) :
  Calls Try.prog 97 #[.slice (some ⟨blk,off,none⟩) d.size cap] w fun e w'=>e = .returned (.tuple #[])∧∃ n,w'=putRow enc (Sort.ahead w n) blk off d.reverse:=by
 have mixed:Try.prog.follows .mixedOrders=true:=Try.checked.mixed
 have hcl:=h1.cells
 simp only[Value.cells] at hcl
 have hst:=h1.store Try.prog
 go_enter Try.func97,Try.ntmps97
 go_wp2
 go_loopg [2,3] d.size (fun k s2 s3 wr=>∃ (i jn:Nat) (jz:Int) (dk:Array α) (n:Nat),s2 = .int .i64 i∧s3 = .int .i64 jz∧((i:Int)<jz→jz=jn∧jn<d.size)∧(¬ (i:Int)<jz→¬ i<jn)∧jn - i≤k ∧
  dk.size=d.size∧wr=putRow enc (Sort.ahead w n) blk off dk∧reverseLoop i jn dk=reverseLoop 0 (d.size - 1) d)
 case atStart=>exact ⟨0,d.size - 1,(d.size:Int) - 1,d,0,rfl,rfl,fun h=>⟨by omega,by omega⟩,fun h=>by omega,by omega,rfl,(putRow_self enc w blk off d hH).symm,rfl⟩
 case round =>
  obtain ⟨i,jn,jz,dk,n,rfl,rfl,h1,h2,hk,hds,hwr,heq⟩:=hrel
  by_cases hlt:(i:Int)<jz
  ·obtain ⟨rfl,hjn⟩:=h1 hlt
   have hij:i<jn:=by omega
   have hHk:Holds enc wr blk off dk:=by rw[hwr];exact holds_putRow enc _ blk off d dk (holds_ahead enc w n blk off d hH) hds
   obtain ⟨ci,fi⟩:=hHk i (by omega)
   obtain ⟨cj,fj⟩:=hHk jn (by omega)
   have A:Aside (wr=putRow enc (Sort.ahead w n) blk off dk):=hwr
   clear hwr hHk hH h1 h2
   go_wp2_with fail
   go_region_o
   go_wp2
   go_roundg (jn - 1 - (i+1))
   case measure=>omega
   case rel =>
    rw[reverseLoop,if_pos hij] at heq
    exact ⟨i+1,jn - 1,(jn:Int) - 1,swp dk i jn,n+1,by simp,rfl,fun h=>⟨by omega,by omega⟩,fun h=>by omega,Nat.le_refl _,by rw[size_swp];exact hds,
     swap_world enc (by omega) (by omega) A.out (by first | rfl | simp[getElem!_pos,show jn<dk.size by omega]) (by first | rfl | simp[getElem!_pos,show i<dk.size by omega]),heq⟩
  ·have hnot:=h2 hlt
   go_wp2
   go_end0
   refine ⟨rfl,n,?_⟩
   rw[reverseLoop,if_neg hnot] at heq
   rw[← Lib.reverseLoop_reverse,← heq]
set_option maxHeartbeats 1000000 in
set_option maxRecDepth 1000000 in
theorem revnone97 (a:Option Addr) (cap:Nat) (w:World):Calls Try.prog 97 #[.slice a 0 cap] w fun e w'=>e = .returned (.tuple #[])∧w'=w:=by
 have mixed:Try.prog.follows .mixedOrders=true:=Try.checked.mixed
 go_enter Try.func97,Try.ntmps97
 go_wp2
 go_loopg [2,3] 0 (fun _ s2 s3 wr=>s2 = .int .i64 0∧s3 = .int .i64 (-1)∧wr=w)
 case atStart=>exact ⟨rfl,rfl,rfl⟩
 case round =>
  obtain ⟨rfl,rfl,rfl⟩:=hrel
  go_wp2
  go_end0
  exact ⟨rfl,rfl⟩
theorem run97:RevRun Try.prog 97 where
 enter:=fun xs w=>by
  have h1 : Try.f97.name ≠ "runtime.NumGoroutine" := by
   have : (Try.f97.name == "runtime.NumGoroutine") = false := by kernel_rfl
   simpa using this
  have hs:Try.f97.body.isSome=true:=by kernel_rfl
  obtain ⟨c,hb⟩:=Option.isSome_iff_exists.1 hs
  simp[callFunc,Try.func97,h1,hb]
 none:=fun w a cap=>revnone97 a cap w
 turn:=fun w b off n cap vs hl hc hf h1 hn=>by
  obtain ⟨d,hd⟩:∃ d:Array One,d.toList.map (·.1)=vs:=⟨(vs.pmap Subtype.mk h1).toArray,by simp[List.map_pmap]⟩
  have hds:d.size=n:=by rw[← hl,← hd];simp
  have hH:Holds (fun x:One=>x.1) w b off d:=fun j hj=>by
   have hj':vs[j]?=some (d[j]!).1:=by rw[← hd,getElem!_pos d j hj];simp[hj]
   exact ⟨hc j _ hj',hf j (by omega)⟩
  have h:=rev97 (fun x:One=>x.1) (fun x=>x.2) b off cap d w hH (by omega)
  rw[hds] at h
  refine h.mono ?_
  rintro e w' ⟨rfl,q,rfl⟩
  refine ⟨rfl,q,?_⟩
  rw[rev_world _ w b off d d.reverse hH (by simp) q,← hd]
  simp
theorem ok97 {E:Env}:FnTab Try.prog E 97 (.sem [.io] revH):=rev_ok run97
theorem row3 {vs:List Value} {n i:Nat} (hl:vs.length=n * 3) (hi:i<n):∃ u0 u1 u2,(vs.drop (i * 3)).take 3=[u0,u1,u2]∧vs[i * 3]?=some u0∧vs[i * 3+1]?=some u1∧vs[i * 3+2]?=some u2:=by
 have h0:i * 3+2<vs.length:=by omega
 refine ⟨vs[i * 3],vs[i * 3+1],vs[i * 3+2],?_,by simp,by simp,by simp⟩
 rw[List.drop_eq_getElem_cons (by omega),List.take_succ_cons,List.drop_eq_getElem_cons (by omega),List.take_succ_cons,List.drop_eq_getElem_cons (by omega),List.take_succ_cons,List.take_zero]
theorem ext_keep {w w':World} {W:Nat→Nat→Prop} (hx:Ext w w' W) {b t:Nat} (hn:¬ W b t) {u:Value} (h:w.cell? ⟨b,t,none⟩=some u):w'.cell? ⟨b,t,none⟩=some u:=by
 cases hb:w.heap[b]? with
 | none=>simp[World.cell?,hb] at h
 | some o =>
   cases o with
   | cells row e fr =>
     rw[cell_at hb] at h
     obtain ⟨row',h1,h2,h3⟩:=hx.cells b row e fr hb
     rw[cell_at h1,h3 t hn];exact h
   | _=>simp[World.cell?,hb] at h
theorem ext_there {w w':World} {W:Nat→Nat→Prop} (hx:Ext w w' W) {b t:Nat} (h:(w.cell? ⟨b,t,none⟩).isSome=true) (hf:w.frozen? ⟨b,t,none⟩=false):(w'.cell? ⟨b,t,none⟩).isSome=true∧w'.frozen? ⟨b,t,none⟩=false:=by
 cases hb:w.heap[b]? with
 | none=>simp[World.cell?,hb] at h
 | some o =>
   cases o with
   | cells row e fr =>
     rw[cell_at hb] at h
     obtain ⟨row',h1,h2,h3⟩:=hx.cells b row e fr hb
     rw[frozen_at hb] at hf
     rw[cell_at h1,frozen_at h1]
     refine ⟨?_,hf⟩
     obtain ⟨u,hu⟩:=Option.isSome_iff_exists.1 h
     have:t<row'.size:=by rw[h2];exact (Array.getElem?_eq_some_iff.1 hu).1
     simp[this]
   | _=>simp[World.cell?,hb] at h
abbrev noW:Nat→Nat→Prop:=fun _ _=>False
def fstI:List Bool→Nat→Int
 | [],_ => -1
 | true::_,i=>(i:Int)
 | false::bs,i=>fstI bs (i+1)
theorem fst_hit:∀ (bs:List Bool) (i k:Nat),bs[k]?=some true→(∀ j,j<k→bs[j]?=some false)→fstI bs i=((i+k:Nat):Int)
 | [],_,_,h,_=>by simp at h
 | true::bs,i,0,_,_=>rfl
 | true::bs,i,k+1,_,h=>by have:=h 0 (by omega);simp at this
 | false::bs,i,0,h,_=>by simp at h
 | false::bs,i,k+1,h,hj=>by
   show fstI bs (i+1)=_
   rw[fst_hit bs (i+1) k (by simpa using h) (fun j hjk=>by have:=hj (j+1) (by omega);simpa using this)]
   congr 1;omega
theorem fst_miss:∀ (bs:List Bool) (i:Nat),(∀ j,j<bs.length→bs[j]?=some false)→fstI bs i = -1
 | [],_,_=>rfl
 | true::bs,i,h=>by have:=h 0 (by simp);simp at this
 | false::bs,i,h=>fst_miss bs (i+1) (fun j hj=>by have:=h (j+1) (by simp;omega);simpa using this)
theorem keep_app {α:Type} {W:Nat}:∀ (ps bs:List Bool) (xs:List α),keepL W (ps++bs) xs=keepL W ps xs++keepL W bs (xs.drop (ps.length * W))
 | [],bs,xs=>by simp[keepL]
 | true  ::ps,bs,xs=>by
   show keepL W (ps++bs) (xs.drop W)=keepL W ps (xs.drop W)++_
   rw[keep_app ps bs,List.drop_drop,List.length_cons,Nat.succ_mul,Nat.add_comm]
 | false  ::ps,bs,xs=>by
   show xs.take W++keepL W (ps++bs) (xs.drop W)=(xs.take W++keepL W ps (xs.drop W))++_
   rw[keep_app ps bs,List.drop_drop,List.length_cons,Nat.succ_mul,Nat.add_comm,List.append_assoc]
theorem kept_app:∀ (ps bs:List Bool),keptN (ps++bs)=keptN ps+keptN bs
 | [],bs=>by simp[keptN]
 | true  ::ps,bs=>kept_app ps bs
 | false  ::ps,bs=>by show keptN (ps++bs)+1=keptN ps+1+keptN bs;rw[kept_app ps bs];omega
theorem keep_no {α:Type} {W:Nat}:∀ (bs:List Bool) (xs:List α),(∀ j,j<bs.length→bs[j]?=some false)→keepL W bs xs=xs.take (bs.length * W)∧keptN bs=bs.length
 | [],xs,_=>by simp[keepL,keptN]
 | true::bs,xs,h=>by have:=h 0 (by simp);simp at this
 | false::bs,xs,h=>by
   obtain ⟨h1,h2⟩:=keep_no bs (xs.drop W) (fun j hj=>by have:=h (j+1) (by simp;omega);simpa using this)
   refine ⟨?_,by show keptN bs+1=_;rw[h2];rfl⟩
   show xs.take W++keepL W bs (xs.drop W)=_
   rw[h1,List.length_cons,Nat.succ_mul,Nat.add_comm,List.take_add]
theorem take_snoc {bs:List Bool} {j:Nat} {c:Bool} (h:bs[j]?=some c):bs.take (j+1)=bs.take j++[c]:=by rw[List.take_add_one,h];rfl
structure DelAt (w wr:World) (blk off n:Nat) (vs:List Value) (bs:List Bool) (i j:Nat):Prop where
 ij:i<j
 jn:j≤n
 ext:Ext w wr (fun b' t=>b'=blk∧off≤t∧t<off+n * 3)
 kept:i=keptN (bs.take j)
 held:∃ xs:List Value,xs.length=n * 3∧(∀ t u,xs[t]?=some u→wr.cell? ⟨blk,off+t,none⟩=some u)∧xs.take (i * 3)=keepL 3 (bs.take j) vs∧xs.drop (j * 3)=vs.drop (j * 3)
theorem DelAt.grow {w wr wr':World} {blk off n i j:Nat} {vs:List Value} {bs:List Bool} (h:DelAt w wr blk off n vs bs i j) (hx:Ext wr wr' noW):DelAt w wr' blk off n vs bs i j:=by
 obtain ⟨a,b,c,d,xs,e,f,g,k⟩:=h
 exact ⟨a,b,c.trans hx (fun _ _ h=>h) (fun _ _ _ h=>h.elim),d,xs,e,fun t u hu=>ext_keep hx (by simp[noW]) (f t u hu),g,k⟩
theorem DelAt.skip {w wr:World} {blk off n i j:Nat} {vs:List Value} {bs:List Bool} (h:DelAt w wr blk off n vs bs i j) (hj:j<n) (hb:bs[j]?=some true):DelAt w wr blk off n vs bs i (j+1):=by
 obtain ⟨a,b,c,d,xs,e,f,g,k⟩:=h
 refine ⟨by omega,by omega,c,?_,xs,e,f,?_,?_⟩
 ·rw[take_snoc hb,kept_app,← d];rfl
 ·rw[take_snoc hb,keep_app,← g];simp[keepL]
 ·rw[Nat.succ_mul,← List.drop_drop,k,List.drop_drop]
theorem DelAt.keep {w wr:World} {blk off n i j:Nat} {vs:List Value} {bs:List Bool} (h:DelAt w wr blk off n vs bs i j) (hj:j<n) (hbl:bs.length=n) (hb:bs[j]?=some false) {u0 u1 u2:Value} (hrow:(vs.drop (j * 3)).take 3=[u0,u1,u2]):DelAt w (((wr.setCell ⟨blk,off+i * 3,none⟩ u0).setCell ⟨blk,off+i * 3+1,none⟩ u1).setCell ⟨blk,off+i * 3+2,none⟩ u2) blk off n vs bs (i+1) (j+1):=by
 obtain ⟨a,b,c,d,xs,e,f,g,k⟩:=h
 have hW:((wr.setCell ⟨blk,off+i * 3,none⟩ u0).setCell ⟨blk,off+i * 3+1,none⟩ u1).setCell ⟨blk,off+i * 3+2,none⟩ u2=wset wr blk (off+i * 3) [u0,u1,u2]:=rfl
 rw[hW]
 have hin:∀ t,t<n * 3→(wr.cell? ⟨blk,off+t,none⟩).isSome=true:=fun t h=>by
  rw[f t xs[t] (List.getElem?_eq_getElem (by omega))];rfl
 obtain ⟨row,ty,fr,hh⟩:∃ row ty fr,wr.heap[blk]?=some (.cells row ty fr):=by
  have:=hin 0 (by omega)
  cases hb:wr.heap[blk]? with
  | none=>simp[World.cell?,hb] at this
  | some o =>
    cases o with
    | cells row e fr=>exact ⟨row,e,fr,rfl⟩
    | _=>simp[World.cell?,hb] at this
 have hsz:off+n * 3≤row.size:=by
  have:=hin (n * 3 - 1) (by omega)
  rw[cell_at hh] at this
  obtain ⟨u,hu⟩:=Option.isSome_iff_exists.1 this
  have:=(Array.getElem?_eq_some_iff.1 hu).1
  omega
 obtain ⟨row1,a1,a2,a3,a4⟩:=wset_heap [u0,u1,u2] wr blk (off+i * 3) row ty fr hh (by simp;omega)
 have x1:=wset_ext [u0,u1,u2] wr blk (off+i * 3)
 refine ⟨by omega,by omega,c.trans x1 (fun _ _ h=>h) (fun b' t _ h=>⟨h.1,by have:=h.2.1;omega,by have h2:=h.2.2;simp at h2;omega⟩),?_,xs.take (i * 3)++([u0,u1,u2]++xs.drop (i * 3+3)),?_,?_,?_,?_⟩
 ·rw[take_snoc hb,kept_app,← d];rfl
 ·simp[e];omega
 ·intro t u hu
  rw[cell_at a1]
  by_cases ht1:t<i * 3
  ·rw[List.getElem?_append_left (by simp;omega),List.getElem?_take_of_lt ht1] at hu
   rw[a4 _ (by omega),← cell_at hh]
   exact f t u hu
  ·by_cases ht2:t<i * 3+3
   ·rw[List.getElem?_append_right (by simp;omega),List.getElem?_append_left (by simp;omega)] at hu
    have hm:min (i * 3) xs.length=i * 3:=by omega
    simp only[List.length_take,hm] at hu
    rw[← a3,seg_getElem?] at hu
    rw[if_pos (by simp;omega),show off+i * 3+(t - i * 3)=off+t by omega] at hu
    exact hu
   ·rw[List.getElem?_append_right (by simp;omega),List.getElem?_append_right (by simp;omega),List.getElem?_drop] at hu
    have hm:min (i * 3) xs.length=i * 3:=by omega
    simp only[List.length_take,hm,List.length_cons,List.length_nil] at hu
    rw[a4 _ (by simp;omega),← cell_at hh]
    refine f t u ?_
    rw[← hu];congr 1;omega
 ·rw[take_snoc hb,keep_app,← g,Nat.succ_mul,← List.append_assoc,List.take_left' (by simp;omega)]
  have hbl2:(bs.take j).length=j:=by simp;omega
  show _=_++((vs.drop _).take 3++[])
  rw[hbl2,hrow,List.append_nil]
 ·have:(xs.take (i * 3)++([u0,u1,u2]++xs.drop (i * 3+3))).drop ((j+1) * 3)=xs.drop ((j+1) * 3):=by
   apply List.ext_getElem?
   intro t
   rw[List.getElem?_drop,List.getElem?_drop,List.getElem?_append_right (by simp;omega),List.getElem?_append_right (by simp;omega),List.getElem?_drop]
   have hm:min (i * 3) xs.length=i * 3:=by omega
   simp only[List.length_take,hm,List.length_cons,List.length_nil]
   congr 1;omega
  rw[this,Nat.succ_mul,← List.drop_drop,k,List.drop_drop]
theorem fst_ex:∀ bs:List Bool,(∀ j,j<bs.length→bs[j]?=some false)∨∃ k:Nat,bs[k]?=some true∧∀ j:Nat,j<k→bs[j]?=some false
 | [] => .inl (by simp)
 | true::bs => .inr ⟨0,rfl,fun j h=>by omega⟩
 | false::bs=>by
   rcases fst_ex bs with h | ⟨k,h1,h2⟩
   ·refine .inl fun j hj => ?_
    cases j with
    | zero=>rfl
    | succ j=>simpa using h j (by simpa using hj)
   ·refine .inr ⟨k+1,by simpa using h1,fun j hj => ?_⟩
    cases j with
    | zero=>rfl
    | succ j=>simpa using h2 j (by omega)
theorem DelAt.start {w wr:World} {blk off n k:Nat} {vs:List Value} {bs:List Bool} (hx:Ext w wr noW) (hl:vs.length=n * 3) (hb:bs.length=n) (hc:∀ t u,vs[t]?=some u→w.cell? ⟨blk,off+t,none⟩=some u) (hk:bs[k]?=some true) (hpre:∀ j,j<k→bs[j]?=some false):DelAt w wr blk off n vs bs k (k+1):=by
 have hkn:k<n:=by rw[← hb];exact (List.getElem?_eq_some_iff.1 hk).1
 have hlen:(bs.take k).length=k:=by simp;omega
 obtain ⟨h1,h2⟩:=keep_no (W:=3) (bs.take k) vs (fun j hj=>by
  rw[hlen] at hj
  rw[List.getElem?_take_of_lt hj];exact hpre j hj)
 rw[hlen] at h1 h2
 refine ⟨by omega,by omega,hx.mono (fun _ _ _ h=>h.elim),?_,vs,hl,fun t u hu=>ext_keep hx (by simp[noW]) (hc t u hu),?_,rfl⟩
 ·rw[take_snoc hk,kept_app,h2];rfl
 ·rw[take_snoc hk,keep_app,h1];simp[keepL]
theorem DelAt.rows {w wr:World} {blk off n i j:Nat} {vs:List Value} {bs:List Bool} (h:DelAt w wr blk off n vs bs i j) (hl:vs.length=n * 3) (hj:j<n) {u0 u1 u2:Value} (r0:vs[j * 3]?=some u0) (r1:vs[j * 3+1]?=some u1) (r2:vs[j * 3+2]?=some u2) :
  (wr.cell? ⟨blk,off+j * 3,none⟩=some u0∧wr.cell? ⟨blk,off+j * 3+1,none⟩=some u1∧wr.cell? ⟨blk,off+j * 3+2,none⟩=some u2) ∧
  ∃ y0 y1 y2,wr.cell? ⟨blk,off+i * 3,none⟩=some y0∧wr.cell? ⟨blk,off+i * 3+1,none⟩=some y1∧wr.cell? ⟨blk,off+i * 3+2,none⟩=some y2:=by
 obtain ⟨a,b,c,d,xs,e,f,g,k⟩:=h
 have hx:∀ t,j * 3≤t→xs[t]?=vs[t]? :=by
  intro t ht
  have:=congrArg (fun l:List Value=>l[t - j * 3]?) k
  simp only[List.getElem?_drop] at this
  rwa [show j * 3+(t - j * 3)=t by omega] at this
 refine ⟨⟨f _ _ (by rw[hx _ (by omega)];exact r0),?_,?_⟩,xs[i * 3]'(by omega),xs[i * 3+1]'(by omega),xs[i * 3+2]'(by omega),f _ _ (by simp),?_,?_⟩
 ·rw[Nat.add_assoc];exact f _ _ (by rw[hx _ (by omega)];exact r1)
 ·rw[Nat.add_assoc];exact f _ _ (by rw[hx _ (by omega)];exact r2)
 ·rw[Nat.add_assoc];exact f _ _ (by simp)
 ·rw[Nat.add_assoc];exact f _ _ (by simp)
theorem ext_var (w:World) (o:Obj) (u0 u1 u2:Value):Ext w ((((w.alloc o).setCell ⟨w.heap.size,0,none⟩ u0).setCell ⟨w.heap.size,1,none⟩ u1).setCell ⟨w.heap.size,2,none⟩ u2) noW :=
 (Ext.alloc w o noW).trans (((Ext.setCell _ ⟨w.heap.size,0,none⟩ u0).trans (Ext.setCell _ ⟨w.heap.size,1,none⟩ u1) (W'' :=fun b _=>b=w.heap.size) (fun _ _ h=>h.1) (fun _ _ _ h=>h.1)).trans (Ext.setCell _ ⟨w.heap.size,2,none⟩ u2) (W'' :=fun b _=>b=w.heap.size) (fun _ _ h=>h) (fun _ _ _ h=>h.1)) (fun _ _ h=>h) (fun b _ hb h=>by omega)
set_option maxHeartbeats 4000000 in
set_option maxRecDepth 1000000 in
theorem clo128 (w:World) (x1:Value) (n cap b off:Nat) (x:Nat) (h:w.cell? ⟨b,off,none⟩=some (.float .f32 x)) (hn:0<n) :
  Calls Try.prog 129 #[.agg #[.int .i64 0,x1,.slice (some ⟨b,off,none⟩) n cap]] w fun e w'=>e = .returned (.bool (FloatKind.f32.format.order x 1065353216==some .eq))∧Ext w w' (fun _ _=>False):=by
 have mixed:Try.prog.follows .mixedOrders=true:=Try.checked.mixed
 have h2:∀ o,(w.alloc o).cell? ⟨b,off,none⟩=some (.float .f32 x):=fun o=>Lib.cell?_alloc_some _ h
 clear h
 go_enter Try.func129,Try.ntmps129
 go_wp2
 go_ret
 exact ⟨by simp,Ext.alloc ..⟩
set_option maxHeartbeats 4000000 in
set_option maxRecDepth 1000000 in
theorem clono128 (w:World) (k:Int) (x1 x2:Value) (hk:k≠0) :
  Calls Try.prog 129 #[.agg #[.int .i64 k,x1,x2]] w fun e w'=>e = .returned (.bool false)∧Ext w w' (fun _ _=>False):=by
 have mixed:Try.prog.follows .mixedOrders=true:=Try.checked.mixed
 have hk2:(k==0)=false:=by simp[hk]
 go_enter Try.func129,Try.ntmps129
 go_wp2
 go_ret
 exact ⟨rfl,Ext.alloc ..⟩
theorem cloOk128:CloOk Try.prog 129 [.leaf,.leaf,.sl .own [.leaf]] [] prUnit:=by
 intro w Fz row rvs f ts caps b hR hC hp
 unfold prUnit at hp
 split at hp
 case h_2=>cases hp
 rename_i k t1 m xs
 cases hC
 cases hR with
 | @leaf _ v0 _ _ vs1 _ hl0 hR1 =>
 cases hR1 with
 | @leaf _ v1 _ _ vs2 _ hl1 hR2 =>
 have hlen:=hR2.length_eq.2
 obtain ⟨v2,rfl⟩:∃ v2,vs2=[v2]:=by
  match vs2,hlen with
  | [v2],_=>exact ⟨v2,rfl⟩
 have hl0:v0 = .int .i64 k:=hl0
 subst hl0
 by_cases hk:k=0
 ·subst hk
  simp only[beq_self_eq_true] at hp
  cases hR2 with
  | slE hq hr2=>cases hp
  | @slO bb off _ cap row e fr _ _ vs' _ _ _ fp₁ fp₂ h0 hb hz hl hn hs hr' hf hi r =>
    cases hm:m with
    | zero=>subst hm;cases hi;cases hp
    | succ m =>
    subst hm
    have hi:R w Fz noLt 0 (.leaf::rep m [.leaf]) _ _ _:=hi
    cases hi with
    | @leaf t v _ _ vs3 _ hlf hrest =>
      split at hp
      case h_2=>cases hp
      rename_i x rest hxs
      simp only[List.cons.injEq] at hxs
      obtain ⟨rfl,-⟩:=hxs
      simp only[Option.some.injEq] at hp
      obtain ⟨bits,rfl,hcan⟩:∃ b,v = .float .f32 b∧canon .f32 b=x:=hlf
      have hc0:w.cell? ⟨bb,off,none⟩=some (.float .f32 bits):=by
       rw[cell_at hb]
       have:(seg row off ((m+1) * [Pm.leaf].length))[0]?=some (.float .f32 bits):=by rw[hs];rfl
       rw[seg_getElem?,if_pos (by simp)] at this
       exact this
      have hrun:=clo128 w v1 (m+1) cap bb off bits hc0 (by omega)
      have ho:FloatKind.f32.format.order bits 1065353216=FloatKind.f32.format.order x 1065353216:=by
       have:=order_canon .f32 bits 1065353216
       rw[hcan,show canon .f32 1065353216=1065353216 by decide] at this
       exact this.symm
      rw[ho,hp] at hrun
      exact hrun
 ·have hk2:(k==0)=false:=by simp[hk]
  rw[hk2] at hp
  cases hp
  exact clono128 w k v1 v2 hk
set_option maxHeartbeats 4000000 in
set_option maxRecDepth 1000000 in
theorem idx128 (w:World) (blk off n cap:Nat) (vs:List Value) (caps:Array Value) (bs:List Bool) (eg:∀ args w,(callFunc 129 args).run Try.prog w = .ok (.enter 129 args) w) (hl:vs.length=n * 3) (hb:bs.length=n) (hc:∀ t u,vs[t]?=some u→w.cell? ⟨blk,off+t,none⟩=some u) (hbig:n<4611686018427387904)
  (hp:∀ i c w',bs[i]?=some c→Ext w w' noW→Calls Try.prog 129 (#[.agg ((vs.drop (i * 3)).take 3).toArray]++caps) w' fun e w''=>e = .returned (.bool c)∧Ext w' w'' noW) :
  Calls Try.prog 164 #[.slice (some ⟨blk,off,none⟩) n cap,.func (.func 129) #[] caps] w fun e w'=>e = .returned (.int .i64 (fstI bs 0))∧Ext w w' noW:=by
 have mixed:Try.prog.follows .mixedOrders=true:=Try.checked.mixed
 have hpA:Aside _:=hp
 have hcA:Aside _:=hc
 clear hp hc
 go_enter Try.func164,Try.ntmps164
 go_wp2
 go_loopg [5,8] n (fun gg _ s8 wr=>∃ kk:Nat,kk≤n∧n - kk≤gg∧s8 = .int .i64 kk∧Aside (Ext w wr noW)∧Aside (∀ j,j<kk→bs[j]?=some false))
 case atStart=>exact ⟨0,Nat.zero_le _,by omega,rfl,(show Aside _ from Ext.refl _ _),(show Aside _ from fun j hj=>absurd hj (Nat.not_lt_zero _))⟩
 case round =>
  obtain ⟨kk,hkk,hg,rfl,hx,A⟩:=hrel
  by_cases hlt:kk<n
  ·have hltz:(kk:Int)<(n:Int):=by omega
   obtain ⟨u0,u1,u2,hrow,r0,r1,r2⟩:=row3 hl hlt
   obtain ⟨c,hcc⟩:∃ c,bs[kk]?=some c:=⟨bs[kk],by simp⟩
   have hcall:=hpA.out kk c wr hcc hx.out
   rw[hrow] at hcall
   have k0:=ext_keep hx.out (by simp[noW]) (hcA.out _ _ r0)
   have k1:=ext_keep hx.out (by simp[noW]) (hcA.out _ _ r1)
   have k2:=ext_keep hx.out (by simp[noW]) (hcA.out _ _ r2)
   rw[← Nat.add_assoc] at k1 k2
   have B:Aside (bs[kk]?=some c):=hcc
   clear hrow r0 r1 r2 hcc
   cases c with
   | true =>
     go_wp2_with (go_at_fn 129;refine (hcall).mono ?_;rintro e w' ⟨rfl,hx2⟩)
     go_ret
     refine ⟨?_,hx.out.trans hx2 (fun _ _ h=>h) (fun _ _ _ h=>h)⟩
     rw[fst_hit bs 0 kk B.out A.out,Nat.zero_add];rfl
   | false =>
     go_wp2_with (go_at_fn 129;refine (hcall).mono ?_;rintro e w' ⟨rfl,hx2⟩)
     go_roundg (n - (kk+1))
     case measure=>omega
     case rel =>
      refine ⟨kk+1,by omega,by omega,by go_num,(show Aside _ from hx.out.trans hx2 (fun _ _ h=>h) (fun _ _ _ h=>h)),(show Aside _ from fun j hj => ?_)⟩
      by_cases e:j=kk
      ·subst e
       exact B.out
      ·exact A.out j (by omega)
  ·have hltz:¬ (kk:Int)<(n:Int):=by omega
   have:kk=n:=by omega
   subst this
   go_wp2
   go_ret
   refine ⟨?_,hx.out⟩
   rw[fst_miss bs 0 (by rw[hb];exact A.out)];rfl
set_option maxHeartbeats 8000000 in
set_option maxRecDepth 1000000 in
theorem delf128 (w:World) (blk off n cap:Nat) (vs:List Value) (caps:Array Value) (bs:List Bool) (z0 z1 z2:Value) (hz:∀ w,(zeroValue 54).run Try.prog w = .ok (.agg #[z0,z1,z2]) w) (hz1:∀ u∈[z0,z1,z2],u.oneCell'=true)
  (eg:∀ args w,(callFunc 129 args).run Try.prog w = .ok (.enter 129 args) w) (ei:∀ args w,(callFunc 164 args).run Try.prog w = .ok (.enter 164 args) w) (hl:vs.length=n * 3) (hb:bs.length=n) (hc:∀ t u,vs[t]?=some u→w.cell? ⟨blk,off+t,none⟩=some u) (hf:∀ t,t<vs.length→w.frozen? ⟨blk,off+t,none⟩=false) (h1:∀ u∈vs,u.oneCell'=true) (hcap:n≤cap) (hbig:n<4611686018427387904)
  (hp:∀ i c w',bs[i]?=some c→Ext w w' (fun b' t=>b'=blk∧off≤t∧t<off+n * 3)→Calls Try.prog 129 (#[.agg ((vs.drop (i * 3)).take 3).toArray]++caps) w' fun e w''=>e = .returned (.bool c)∧Ext w' w'' noW) :
  Calls Try.prog 128 #[.slice (some ⟨blk,off,none⟩) n cap,.func (.func 129) #[] caps] w fun e w'=>e = .returned (.slice (some ⟨blk,off,none⟩) (keptN bs) cap)∧Ext w w' (fun b' t=>b'=blk∧off≤t∧t<off+n * 3) ∧
   ∀ t u,(keepL 3 bs vs)[t]?=some u→w'.cell? ⟨blk,off+t,none⟩=some u:=by
 have mixed:Try.prog.follows .mixedOrders=true:=Try.checked.mixed
 have hI:=idx128 w blk off n cap vs caps bs eg hl hb hc hbig (fun i c w' h hx=>hp i c w' h (hx.mono (fun _ _ _ h=>h.elim)))
 have hpA:Aside _:=hp
 have hcA:Aside _:=hc
 have hfA:Aside _:=hf
 have h1A:Aside _:=h1
 have hzA:Aside _:=hz
 have hz1A:Aside _:=hz1
 clear hp hc hf h1 hz hz1
 rcases fst_ex bs with hno | ⟨k0,hk0,hpre⟩
 ·have e1:fstI bs 0 = -1:=fst_miss bs 0 hno
  obtain ⟨k1,k2⟩:=keep_no (W:=3) bs vs hno
  rw[e1] at hI
  have k1A:Aside _:=k1
  have k2A:Aside _:=k2
  clear hno k1 k2
  go_enter Try.func128,Try.ntmps128
  go_wp2_with (go_at_fn 164;refine hI.mono ?_;rintro e w' ⟨rfl,hx⟩)
  go_ret
  refine ⟨?_,hx.mono (fun _ _ _ h=>h.elim),?_⟩
  ·rw[k2A.out,hb];rfl
  ·intro t u hu
   rw[k1A.out,hb,← hl,List.take_length] at hu
   exact ext_keep hx (by simp[noW]) (hcA.out t u hu)
 ·have hk:k0<n:=by rw[← hb];exact (List.getElem?_eq_some_iff.1 hk0).1
  have e1:fstI bs 0=(k0:Int):=by rw[fst_hit bs 0 k0 hk0 hpre,Nat.zero_add]
  rw[e1] at hI
  have hne1:((k0:Int) == -1)=false:=beq_eq_false_iff_ne.2 (by omega)
  have hk0A:Aside _:=hk0
  have hpreA:Aside _:=hpre
  clear hk0 hpre e1
  go_enter Try.func128,Try.ntmps128
  go_wp2_with (go_at_fn 164;refine hI.mono ?_;rintro e w0 ⟨rfl,hx0⟩)
  go_loopg [5,6,7] n (fun gg s5 s6 _ wr=>∃ (i j:Nat),s5 = .int .i64 i∧s6 = .int .i64 j∧n - j≤gg∧Aside (DelAt w wr blk off n vs bs i j))
  case atStart =>
   refine ⟨k0,k0+1,rfl,by go_num,by omega,(show Aside _ from ?_)⟩
   exact DelAt.start hx0 hl hb hcA.out hk0A.out hpreA.out
  case round =>
   obtain ⟨i,j,rfl,rfl,hgg,hD⟩:=hrel
   by_cases hlt:j<n
   ·have hltz:(j:Int)<(n:Int):=by omega
    obtain ⟨u0,u1,u2,hrow,r0,r1,r2⟩:=row3 hl hlt
    obtain ⟨⟨k0',k1,k2⟩,y0,y1,y2,j0,j1,j2⟩:=hD.out.rows hl hlt r0 r1 r2
    have o0:u0.oneCell'=true:=h1A.out _ (List.mem_of_getElem? r0)
    have o1:u1.oneCell'=true:=h1A.out _ (List.mem_of_getElem? r1)
    have o2:u2.oneCell'=true:=h1A.out _ (List.mem_of_getElem? r2)
    obtain ⟨c,hcc⟩:∃ c,bs[j]?=some c:=⟨bs[j],by simp⟩
    have B:Aside (bs[j]?=some c):=hcc
    have R:Aside ((vs.drop (j * 3)).take 3=[u0,u1,u2]):=hrow
    have hij:=hD.out.ij
    have hW1:Calls Try.prog 129 (#[.agg #[u0,u1,u2]]++caps) (wr.alloc (Obj.cells #[u0,u1,u2] 54)) fun e w''=>e = .returned (.bool c)∧Ext (wr.alloc (Obj.cells #[u0,u1,u2] 54)) w'' noW:=by
     have:=hpA.out j c _ hcc (hD.out.ext.trans (Ext.alloc wr (Obj.cells #[u0,u1,u2] 54) noW) (fun _ _ h=>h) (fun _ _ _ h=>h.elim))
     rw[hrow] at this
     exact this
    have v0:(wr.alloc (Obj.cells #[u0,u1,u2] 54)).cell? ⟨wr.heap.size,0,none⟩=some u0:=by simp
    have v1:(wr.alloc (Obj.cells #[u0,u1,u2] 54)).cell? ⟨wr.heap.size,1,none⟩=some u1:=by simp
    have v2:(wr.alloc (Obj.cells #[u0,u1,u2] 54)).cell? ⟨wr.heap.size,2,none⟩=some u2:=by simp
    have gA:Aside (Ext wr (wr.alloc (Obj.cells #[u0,u1,u2] 54)) noW):=Ext.alloc _ _ _
    have frz:∀ t,t<n * 3→wr.frozen? ⟨blk,off+t,none⟩=false:=fun t ht=>(ext_there hD.out.ext (by rw[hcA.out t vs[t] (List.getElem?_eq_getElem (by omega))];rfl) (hfA.out t (by omega))).2
    have i0:=frz (i * 3) (by omega)
    have i1:=frz (i * 3+1) (by omega)
    have i2:=frz (i * 3+2) (by omega)
    rw[← Nat.add_assoc] at i1 i2
    have V:Aside (_∧_∧_):=⟨v0,v1,v2⟩
    have Y:Aside ((_∧_∧_)∧(_∧_∧_)):=⟨⟨j0,j1,j2⟩,i0,i1,i2⟩
    clear frz v0 v1 v2 j0 j1 j2 i0 i1 i2
    clear hrow r0 r1 r2 hcc
    have s0:∀ a m w,Sem.run Try.prog (store a u0 m) w=stored Try.prog w a u0 m:=fun a m w=>run_store _ w a _ m o0
    have s1:∀ a m w,Sem.run Try.prog (store a u1 m) w=stored Try.prog w a u1 m:=fun a m w=>run_store _ w a _ m o1
    have s2:∀ a m w,Sem.run Try.prog (store a u2 m) w=stored Try.prog w a u2 m:=fun a m w=>run_store _ w a _ m o2
    have zz:=hzA.out
    cases c with
    | true =>
      go_wp2_with (go_at_fn 129;refine hW1.mono ?_;rintro e w2 ⟨rfl,hx2⟩;have hD2:=((hD.out.grow gA.out).grow hx2).skip hlt B.out;have D2:Aside _:=hD2;clear hx2 hD2)
      go_roundg (n - (j+1))
      case measure=>omega
      case rel=>exact ⟨i,j+1,rfl,by go_num,by omega,D2⟩
    | false =>
      go_wp2_with (go_at_fn 129;refine hW1.mono ?_;rintro e w2 ⟨rfl,hx2⟩;have v0:=ext_keep hx2 (by simp[noW]) V.out.1;have v1:=ext_keep hx2 (by simp[noW]) V.out.2.1;have v2:=ext_keep hx2 (by simp[noW]) V.out.2.2;have hg:=gA.out.trans hx2 (W'' :=noW) (fun _ _ h=>h) (fun _ _ _ h=>h);have t0:=ext_there hg (by rw[Y.out.1.1];rfl) Y.out.2.1;have t1:=ext_there hg (by rw[Y.out.1.2.1];rfl) Y.out.2.2.1;have t2:=ext_there hg (by rw[Y.out.1.2.2];rfl) Y.out.2.2.2;have j0:=ext_keep hg (by simp[noW]) Y.out.1.1;have j1:=ext_keep hg (by simp[noW]) Y.out.1.2.1;have j2:=ext_keep hg (by simp[noW]) Y.out.1.2.2;have i0:=t0.2;have i1:=t1.2;have i2:=t2.2;have hD2:=(hD.out.grow gA.out).grow hx2;have D2:Aside _:=hD2;clear t0 t1 t2 hx2 hD2 hg)
      go_roundg (n - (j+1))
      case measure=>omega
      case rel =>
       exact ⟨i+1,j+1,by go_num,by go_num,by omega,(show Aside _ from D2.out.keep hlt hb B.out R.out)⟩
   ·have hD1:=hD.out
    obtain rfl:j=n:=by have:=hD1.jn;omega
    have hltz:¬ (j:Int)<(j:Int):=by omega
    have hij:=hD1.ij
    have zl:(Builtin.zeroCells (Value.agg #[z0,z1,z2]).cells (j - i)).toList.length=(j - i) * 3:=zeroCells_len _ _ _ rfl
    have hcl:∀ ty,(Builtin.clear_ #[35] ty #[.slice (some ⟨blk,off+i * 3,none⟩) (j - i) (cap - i)]).run Try.prog wr = .ok (.tuple #[]) (wr.setCells blk (off+i * 3) (Builtin.zeroCells (Value.agg #[z0,z1,z2]).cells (j - i)).toList):=by
     intro ty
     refine run_clear_rows wr 35 54 ty _ Try.underlying35 hzA.out blk (off+i * 3) (j - i) (cap - i) (by omega) (zeroCells_one _ _ hz1A.out) ?_ ?_
     ·rw[zl]
      intro t ht
      rw[Nat.add_assoc]
      exact (ext_there hD1.ext (by rw[hcA.out (i * 3+t) vs[i * 3+t] (List.getElem?_eq_getElem (by omega))];rfl) (hfA.out _ (by omega))).1
     ·rw[zl]
      intro t ht
      rw[Nat.add_assoc]
      exact (ext_there hD1.ext (by rw[hcA.out (i * 3+t) vs[i * 3+t] (List.getElem?_eq_getElem (by omega))];rfl) (hfA.out _ (by omega))).2
    have zA:Aside ((Builtin.zeroCells #[z0,z1,z2] (j - i)).toList.length=(j - i) * 3):=zl
    have h3:i≤cap:=by omega
    have h4:i≤j:=by omega
    clear hD1 zl
    go_wp2
    go_ret
    have hD1:=hD.out
    have hk:=hD1.kept
    have tb:bs.take j=bs:=List.take_of_length_le (by omega)
    rw[tb] at hk
    refine ⟨by rw[hk];rfl,?_,?_⟩
    ·rw[setCells_wset]
     exact hD1.ext.trans (wset_ext _ wr blk (off+i * 3)) (fun _ _ h=>h) (fun b' t _ h=>⟨h.1,by have:=h.2.1;omega,by have:=h.2.2;rw[zA.out] at this;omega⟩)
    ·intro t u hu
     obtain ⟨xs,e,f,g,k⟩:=hD1.held
     rw[tb] at g
     rw[← g] at hu
     have ht:t<i * 3:=by have:=(List.getElem?_eq_some_iff.1 hu).1;simp at this;omega
     rw[List.getElem?_take_of_lt ht] at hu
     rw[World.cell?_setCells_out blk _ _ _ _ (fun _ _=>Or.inl (by show off+t<off+i * 3;omega))]
     exact f t u hu
set_option maxHeartbeats 1000000 in
set_option maxRecDepth 1000000 in
theorem idxnone128 (w:World) (fv:Value):Calls Try.prog 164 #[.slice none 0 0,fv] w fun e w'=>e = .returned (.int .i64 (-1))∧w'=w:=by
 have mixed:Try.prog.follows .mixedOrders=true:=Try.checked.mixed
 go_enter Try.func164,Try.ntmps164
 go_wp2
 go_loopg [5,8] 0 (fun _ _ s8 wr=>s8 = .int .i64 0∧wr=w)
 case atStart=>exact ⟨rfl,rfl⟩
 case round =>
  obtain ⟨rfl,rfl⟩:=hrel
  go_wp2
  go_ret
  exact ⟨rfl,rfl⟩
set_option maxHeartbeats 1000000 in
set_option maxRecDepth 1000000 in
theorem none128 (w:World) (fv:Value):Calls Try.prog 128 #[.slice none 0 0,fv] w fun e w'=>e = .returned (.slice none 0 0)∧Ext w w' (fun _ _=>False):=by
 have mixed:Try.prog.follows .mixedOrders=true:=Try.checked.mixed
 have hI:=idxnone128 w fv
 have ei:∀ args w,(callFunc 164 args).run Try.prog w = .ok (.enter 164 args) w:=enters_of Try.func164 (by kernel_rfl) rfl
 go_enter Try.func128,Try.ntmps128
 go_wp2_with (go_at_fn 164;refine hI.mono ?_;rintro e w' ⟨rfl,rfl⟩)
 go_ret
 exact ⟨rfl,Ext.refl _ _⟩
theorem run128:DelFRun Try.prog 128 3 129 where
 enter:=fun xs w=>by
  have h1 : Try.f128.name ≠ "runtime.NumGoroutine" := by
   have : (Try.f128.name == "runtime.NumGoroutine") = false := by kernel_rfl
   simpa using this
  have hs:Try.f128.body.isSome=true:=by kernel_rfl
  obtain ⟨c,hb⟩:=Option.isSome_iff_exists.1 hs
  simp[callFunc,Try.func128,h1,hb]
 none:=none128
 run:=fun w b off n cap vs caps bs hl hb hc hf h1 hn hbig hp=>delf128 w b off n cap vs caps bs (.int .i64 0) (.int .i64 0) (.slice none 0 0) Try.zeroValue54 (by simp[Value.oneCell']) (enters_of Try.func129 (by kernel_rfl) rfl) (enters_of Try.func164 (by kernel_rfl) rfl) hl hb hc hf h1 hn hbig hp
theorem ok128 {E:Env}:FnTab Try.prog E 128 (.sem [.io,.val] (delFH 129 [.leaf,.leaf,.sl .own [.leaf]] [] prUnit)):=delf_ok run128 cloOk128
end Go.Proofs.Ytdobhipbgpiceaa.DS
end
noncomputable section
namespace Go.Proofs.Ytdobhipbgpiceaa.D
open Go Go.Desk
def bodyOf (f:Func):Code:=match f.body with
 | some c=>c
 | none => .skip
def tyTab:List (Nat × TD):=[
 (2,⟨false,1,8,[.leaf],[.int .i64 0],.int .i64⟩),
 (3,⟨false,1,8,[.leaf],[.int .i64 0],.int .i64⟩),
 (4,⟨false,1,1,[.leaf],[.bool false],.bool⟩),
 (24,⟨false,1,24,[.sl .own [.leaf]],[.lst 0 []],.slc 29⟩),
 (29,⟨false,1,4,[.leaf],[.flt .f32 0],.flt .f32⟩),
 (34,⟨false,1,8,[.leaf],[.flt .f64 0],.flt .f64⟩),
 (35,⟨false,1,24,[.sl .own [.leaf,.leaf,.sl .own [.leaf]]],[.lst 0 []],.slc 54⟩),
 (54,⟨true,3,40,[.leaf,.leaf,.sl .own [.leaf]],[.int .i64 0,.int .i64 0,.lst 0 []],.st [(0,2),(1,2),(2,24)]⟩),
 (60,⟨false,1,24,[.sl .own [.leaf]],[.lst 0 []],.slc 2⟩),
 (83,⟨false,1,24,[.sl .own [.leaf,.leaf,.sl .own [.leaf]]],[.lst 0 []],.slc 91⟩),
 (84,⟨false,1,24,[.sl .own [.sl .own [.leaf,.leaf,.sl .own [.leaf]],.leaf,.leaf,.leaf,.leaf]],[.lst 0 []],.slc 161⟩),
 (86,⟨true,2,48,[.sl .own [.leaf,.leaf,.sl .own [.leaf]],.sl .own [.sl .own [.leaf,.leaf,.sl .own [.leaf]],.leaf,.leaf,.leaf,.leaf]],[.lst 0 [],.lst 0 []],.st [(0,83),(1,84)]⟩),
 (91,⟨true,3,40,[.leaf,.leaf,.sl .own [.leaf]],[.int .i64 0,.int .i64 0,.lst 0 []],.st [(0,2),(1,2),(2,24)]⟩),
 (94,⟨false,1,24,[.sl .own [.leaf,.leaf,.sl .own [.leaf]]],[.lst 0 []],.slc 191⟩),
 (95,⟨false,1,24,[.sl .own [.sl .own [.leaf,.leaf,.sl .own [.leaf]],.leaf,.leaf,.leaf,.leaf]],[.lst 0 []],.slc 195⟩),
 (97,⟨true,2,48,[.sl .own [.leaf,.leaf,.sl .own [.leaf]],.sl .own [.sl .own [.leaf,.leaf,.sl .own [.leaf]],.leaf,.leaf,.leaf,.leaf]],[.lst 0 [],.lst 0 []],.st [(0,94),(1,95)]⟩),
 (131,⟨false,1,24,[.sl .own [.leaf]],[.lst 0 []],.slc 4⟩),
 (146,⟨false,1,8,[.leaf],[.nil],.ptr 86⟩),
 (149,⟨false,1,8,[.leaf],[.nil],.ptr 91⟩),
 (161,⟨true,5,40,[.sl .own [.leaf,.leaf,.sl .own [.leaf]],.leaf,.leaf,.leaf,.leaf],[.lst 0 [],.int .i64 0,.flt .f32 0,.bool false,.bool false],.st [(0,35),(1,2),(2,29),(3,4),(4,4)]⟩),
 (185,⟨true,5,40,[.sl .own [.leaf],.leaf,.leaf,.leaf,.leaf],[.lst 0 [],.int .i64 0,.flt .f32 0,.bool false,.bool false],.st [(0,24),(1,2),(2,29),(3,4),(4,4)]⟩),
 (187,⟨false,1,8,[.leaf],[.nil],.ptr 161⟩),
 (189,⟨false,1,24,[.sl .own [.sl .own [.leaf],.leaf,.leaf,.leaf,.leaf]],[.lst 0 []],.slc 185⟩),
 (191,⟨true,3,40,[.leaf,.leaf,.sl .own [.leaf]],[.int .i64 0,.int .i64 0,.lst 0 []],.st [(0,2),(1,2),(2,24)]⟩),
 (193,⟨false,1,24,[.sl .own [.leaf,.leaf,.sl .own [.leaf]]],[.lst 0 []],.slc 235⟩),
 (195,⟨true,5,40,[.sl .own [.leaf,.leaf,.sl .own [.leaf]],.leaf,.leaf,.leaf,.leaf],[.lst 0 [],.int .i64 0,.flt .f32 0,.bool false,.bool false],.st [(0,193),(1,2),(2,29),(3,4),(4,4)]⟩),
 (224,⟨false,1,8,[.leaf],[.nil],.ptr 54⟩),
 (235,⟨true,3,40,[.leaf,.leaf,.sl .own [.leaf]],[.int .i64 0,.int .i64 0,.lst 0 []],.st [(0,2),(1,2),(2,24)]⟩)]
def c11:Code:=bodyOf Try.f11
def c23:Code:=bodyOf Try.f23
def c55:Code:=bodyOf Try.f55
def c56:Code:=bodyOf Try.f56
def c57:Code:=bodyOf Try.f57
def c58:Code:=bodyOf Try.f58
def c59:Code:=bodyOf Try.f59
def c62:Code:=bodyOf Try.f62
def c63:Code:=bodyOf Try.f63
def c66:Code:=bodyOf Try.f66
def c67:Code:=bodyOf Try.f67
def c76:Code:=bodyOf Try.f76
def c78:Code:=bodyOf Try.f78
def c81:Code:=bodyOf Try.f81
def c83:Code:=bodyOf Try.f83
def c84:Code:=bodyOf Try.f84
def c87:Code:=bodyOf Try.f87
def c89:Code:=bodyOf Try.f89
def c91:Code:=bodyOf Try.f91
def c100:Code:=bodyOf Try.f100
def c101:Code:=bodyOf Try.f101
def c102:Code:=bodyOf Try.f102
def c103:Code:=bodyOf Try.f103
def c104:Code:=bodyOf Try.f104
def c105:Code:=bodyOf Try.f105
def c106:Code:=bodyOf Try.f106
def c107:Code:=bodyOf Try.f107
def c108:Code:=bodyOf Try.f108
def c109:Code:=bodyOf Try.f109
def c110:Code:=bodyOf Try.f110
def c111:Code:=bodyOf Try.f111
def c112:Code:=bodyOf Try.f112
def c113:Code:=bodyOf Try.f113
def c114:Code:=bodyOf Try.f114
def c115:Code:=bodyOf Try.f115
def c116:Code:=bodyOf Try.f116
def c117:Code:=bodyOf Try.f117
def c118:Code:=bodyOf Try.f118
def c119:Code:=bodyOf Try.f119
def c121:Code:=bodyOf Try.f121
def c122:Code:=bodyOf Try.f122
def c123:Code:=bodyOf Try.f123
def c124:Code:=bodyOf Try.f124
def c125:Code:=bodyOf Try.f125
def c126:Code:=bodyOf Try.f126
def c127:Code:=bodyOf Try.f127
def c129:Code:=bodyOf Try.f129
def c133:Code:=bodyOf Try.f133
def c136:Code:=bodyOf Try.f136
def c137:Code:=bodyOf Try.f137
def c143:Code:=bodyOf Try.f143
def c144:Code:=bodyOf Try.f144
def c145:Code:=bodyOf Try.f145
def c146:Code:=bodyOf Try.f146
def c147:Code:=bodyOf Try.f147
def c148:Code:=bodyOf Try.f148
def c149:Code:=bodyOf Try.f149
def c150:Code:=bodyOf Try.f150
def c151:Code:=bodyOf Try.f151
def c152:Code:=bodyOf Try.f152
def c153:Code:=bodyOf Try.f153
def c154:Code:=bodyOf Try.f154
def c155:Code:=bodyOf Try.f155
def c156:Code:=bodyOf Try.f156
def c157:Code:=bodyOf Try.f157
def c158:Code:=bodyOf Try.f158
def c159:Code:=bodyOf Try.f159
def c162:Code:=bodyOf Try.f162
def c163:Code:=bodyOf Try.f163
def c174:Code:=bodyOf Try.f174
def c177:Code:=bodyOf Try.f177
def c178:Code:=bodyOf Try.f178
def c179:Code:=bodyOf Try.f179
def c180:Code:=bodyOf Try.f180
def c181:Code:=bodyOf Try.f181
def c182:Code:=bodyOf Try.f182
def c183:Code:=bodyOf Try.f183
def c184:Code:=bodyOf Try.f184
def c185:Code:=bodyOf Try.f185
def c187:Code:=bodyOf Try.f187
def c194:Code:=bodyOf Try.f194
def c195:Code:=bodyOf Try.f195
def c196:Code:=bodyOf Try.f196
def c197:Code:=bodyOf Try.f197
def c199:Code:=bodyOf Try.f199
def c205:Code:=bodyOf Try.f205
def fnTab:List (Nat × FD):=[
 (11,.code c11 [.val] [] [(2,none)] [(0,[0]),(1,[1]),(2,[1,3]),(3,[1,3]),(4,[]),(5,[1]),(6,[1,4,5]),(7,[1,4,5,6]),(8,[1,4,5,6,7,8]),(9,[]),(10,[1,4,5,6,7,8]),(11,[]),(12,[1,4,5,6,7,8]),(13,[1,4,5,6,7,8,9]),(14,[1,4,5,7,8,9]),(15,[]),(16,[1,4,5,7]),(17,[1,4,5,7,10]),(18,[1,4,5,7,10]),(19,[1,4,5,7,10,11]),(20,[1,4,5,7,10,11]),(21,[]),(22,[1,4,5,7,10,11]),(23,[]),(24,[1,4,5,7,10]),(25,[4,5,7,10,12,13]),(26,[]),(27,[7,10]),(28,[7,10,11]),(29,[10,11]),(30,[]),(31,[10,11]),(32,[]),(33,[])]),
 (23,.code c23 [.val] [] [(2,none)] [(0,[0]),(1,[0]),(2,[]),(3,[0]),(4,[0,8,9,10]),(5,[0,8,9,10]),(6,[0,4,8,9,10]),(7,[]),(8,[0,8,9,10]),(9,[]),(1000004,[2])]),
 (55,.code c55 [.val,.val] [] [(4,none)] [(0,[0,1]),(1,[1,2]),(2,[1,2]),(3,[]),(4,[1,2]),(5,[1]),(6,[]),(7,[1])]),
 (56,.code c56 [.val] [] [(2,some (true,2))] [(0,[0]),(1,[1,2]),(2,[1,2,3]),(3,[1,2,3]),(4,[2,3])]),
 (57,.code c57 [.val,.val] [] [(4,none)] [(0,[0,1]),(1,[2,3]),(2,[]),(3,[2,3]),(4,[]),(5,[])]),
 (58,.code c58 [.io,.val] [2] [(4,none)] [(0,[0,1]),(1,[1,2]),(2,[1,2]),(3,[1,2])]),
 (59,.code c59 [.val,.val] [] [(4,none)] [(0,[0,1]),(1,[1,2]),(2,[1,2]),(3,[]),(4,[1,2]),(5,[1]),(6,[]),(7,[1])]),
 (62,.code c62 [.val] [] [(2,some (true,2)),(3,none)] [(0,[0]),(1,[1,2]),(2,[2]),(3,[1,2]),(4,[1,2,4]),(5,[1,2,4]),(6,[1,2,4,5]),(7,[1,2,4,5,21,22]),(8,[1,2,4,5,21,22]),(9,[1,2,4,5,6,21,22]),(10,[1,2,4,5,6,7,21,22]),(11,[1,2,4,5,6,7,21,22]),(12,[1,2,4,5,6,7,21,22]),(13,[1,2,4,5,6,7,21,22,42,43]),(14,[1,2,4,5,6,7,21,22,42,43]),(15,[1,2,4,5,6,7,8,21,22,42,43]),(16,[1,2,4,5,6,7,8,21,22,42,43]),(17,[1,2,4,5,6,7,21,22,42,43]),(18,[1,2,4,5,6,21,22]),(19,[1,2,4,5,6,9,21,22]),(20,[1,2,4,5,6,9,10,21,22]),(21,[1,2,4,5,6,9,10,21,22,82,83]),(22,[1,2,4,5,6,9,10,21,22,82,83]),(23,[1,2,4,5,6,9,10,11,21,22,82,83]),(24,[1,2,4,5,6,9,10,11,21,22,82,83]),(25,[1,2,4,5,6,10,11,21,22,82,83]),(26,[1,2,4,5,6,9,10,11,21,22,82,83]),(27,[1,2,4,5,6,9,10,21,22,82,83]),(28,[1,2,4,5,6,9,10,21,22]),(29,[1,2,4,5,6,9,10,21,22]),(30,[1,2,4,5,6,9,10,21,22]),(31,[1,2,4,5,21,22]),(32,[2,4]),(1000007,[2,4]),(1000013,[1,2,4,5,6,21,22,79,119,140]),(1000021,[1,2,4,5,6,9,10,21,22,79,119,140])]),
 (63,.code c63 [.val] [] [(2,some (true,2)),(3,none)] [(0,[0]),(1,[1,2]),(2,[2]),(3,[1,2]),(4,[1,2,4]),(5,[1,2,4]),(6,[1,2,4,20,21,22]),(7,[1,2,4,20,21,22]),(8,[1,2,4,5,6,20,21,22]),(9,[1,2,4,5,6,7,20,21,22]),(10,[1,2,4,5,20,21,22]),(11,[1,2,4,5,7,20,21,22]),(12,[1,2,4,7,20,21,22]),(13,[1,2,4,7,8,9,20,21,22]),(14,[1,2,4,7,8,9,20,21,22,48,49,50]),(15,[1,2,4,7,8,9,20,21,22,48,49,50]),(16,[1,2,4,7,8,9,11,20,21,22,48,49,50]),(17,[1,2,4,7,8,9,11,20,21,22,48,49,50]),(18,[1,2,4,7,9,11,20,21,22,48,49,50]),(19,[1,2,4,7,8,9,11,20,21,22,48,49,50]),(20,[1,2,4,7,8,9,20,21,22,48,49,50]),(21,[1,2,4,7,8,9,20,21,22]),(22,[1,2,4,7,8,9,20,21,22]),(23,[1,2,4,20,21,22]),(24,[2,4]),(1000006,[2,4]),(1000014,[1,2,4,7,8,9,20,21,22,72,91])]),
 (66,.code c66 [.val] [] [(2,none)] [(0,[0]),(1,[0])]),
 (67,.code c67 [.val,.val,.val] [] [(6,none)] [(0,[0,1,2]),(1,[0,1,2])]),
 (76,.code c76 [.val] [] [(2,none)] [(0,[0]),(1,[1]),(2,[1,4]),(3,[1,4]),(4,[1]),(5,[1,4]),(6,[1]),(7,[1,4]),(8,[1]),(9,[1,4]),(10,[1]),(11,[1,4]),(12,[1]),(13,[1,4]),(14,[1]),(15,[])]),
 (78,.code c78 [.val] [] [(2,none)] [(0,[0]),(1,[0]),(2,[0,3]),(3,[0,3,6,7,8]),(4,[0,3,6,7,8]),(5,[0,3,5,6,7,8]),(6,[0,3,5,6,7,8]),(7,[0,3,6,7,8]),(8,[3]),(1000003,[3])]),
 (81,.code c81 [.val] [] [(2,none)] [(0,[0]),(1,[0])]),
 (83,.code c83 [.val,.val] [] [(4,none)] [(0,[0,1]),(1,[0,1])]),
 (84,.code c84 [.val] [] [(2,none)] [(0,[0]),(1,[0])]),
 (87,.code c87 [.val] [] [(2,none)] [(0,[0]),(1,[0])]),
 (89,.code c89 [.val] [] [(2,none)] [(0,[0]),(1,[0])]),
 (91,.code c91 [.val] [] [(2,none)] [(0,[0]),(1,[0])]),
 (100,.code c100 [.val,.val,.val,.val] [] [(8,none)] [(0,[0,1,2,3]),(1,[1,2,3,4]),(2,[1,2,3,4,9]),(3,[1,2,3,4,9,18,19,20]),(4,[1,2,3,4,9,18,19,20]),(5,[1,2,3,4,9,11,18,19,20]),(6,[1,2,3,4,9,11,18,19,20]),(7,[1,2,3,4,9,11,18,19,20,29,30,31]),(8,[1,2,3,4,9,11,18,19,20,29,30,31]),(9,[1,2,3,4,9,11,12,13,18,19,20,29,30,31]),(10,[1,2,3,4,9,11,13,14,18,19,20,29,30,31]),(11,[1,2,3,4,9,11,13,14,18,19,20,29,30,31]),(12,[1,2,3,4,9,11,18,19,20,29,30,31]),(13,[1,2,3,4,9,18,19,20]),(14,[9]),(1000003,[9]),(1000007,[1,2,3,4,9,18,19,20,53,54])]),
 (101,.code c101 [.val] [] [(2,none)] [(0,[0]),(1,[1]),(2,[]),(3,[1]),(4,[1,20,21,22]),(5,[1,20,21,22]),(6,[1,4,20,21,22]),(7,[]),(8,[1,20,21,22]),(9,[1]),(10,[1,44,45,46]),(11,[1,44,45,46]),(12,[1,6,44,45,46]),(13,[]),(14,[1,44,45,46]),(15,[]),(1000004,[1,2,69]),(1000010,[2])]),
 (102,.code c102 [.val] [] [(2,none)] [(0,[0]),(1,[1])]),
 (103,.code c103 [.val] [] [(2,some (true,2))] [(0,[0]),(1,[1,2]),(2,[1,2,3]),(3,[1,2,3,9,10,11]),(4,[1,2,3,9,10,11]),(5,[1,2,3,5,9,10,11]),(6,[1,2,3,5,9,10,11]),(7,[1,2,3,9,10,11]),(8,[1,2,3]),(9,[1,2,3,27,28,29]),(10,[1,2,3,27,28,29]),(11,[1,2,3,7,27,28,29]),(12,[1,2,3,7,27,28,29]),(13,[1,2,3,27,28,29]),(14,[2,3]),(1000003,[1,2,3,43]),(1000009,[2,3])]),
 (104,.code c104 [.io] [1] [(2,some (true,2)),(3,none)] [(0,[0]),(1,[1,2]),(2,[1,2]),(3,[1,2])]),
 (105,.code c105 [.val] [] [(2,none)] [(0,[0]),(1,[0]),(2,[0,3]),(3,[]),(4,[0,3]),(5,[0,3,27,28]),(6,[0,3,27,28]),(7,[0,3,4,27,28]),(8,[0,3,4,5,27,28]),(9,[]),(10,[0,3,27,28]),(11,[0,3]),(12,[0,3,60,61]),(13,[0,3,60,61]),(14,[0,3,6,60,61]),(15,[]),(16,[0,3,60,61]),(17,[]),(1000005,[0,2,3,100]),(1000012,[2])]),
 (106,.code c106 [.val,.val,.val] [] [(6,none)] [(0,[0,1,2]),(1,[0,1,2])]),
 (107,.code c107 [.val] [] [(2,some (true,2))] [(0,[0]),(1,[0,2]),(2,[0,2,3]),(3,[0,2,3,14,15]),(4,[0,2,3,14,15]),(5,[0,2,3,4,14,15]),(6,[0,2,3,14,15]),(7,[0,2,3]),(8,[0,2,3,35,36]),(9,[0,2,3,35,36]),(10,[0,2,3,5,35,36]),(11,[0,2,3,6,35,36]),(12,[0,2,3,6,35,36]),(13,[0,2,3,35,36]),(14,[2,3]),(1000003,[0,2,3,56]),(1000008,[2,3])]),
 (108,.code c108 [.val] [] [(2,some (true,3))] [(0,[0]),(1,[0,2])]),
 (109,.code c109 [.val,.val] [] [(4,none)] [(0,[0,1]),(1,[0,1]),(2,[0,1]),(3,[]),(4,[0,1]),(5,[0,1,5]),(6,[0,1,5]),(7,[0,1,5]),(8,[0,1,5]),(9,[]),(10,[1]),(1000005,[1,4])]),
 (110,.code c110 [.val,.val] [] [(4,none)] [(0,[0,1]),(1,[0,1]),(2,[0,1]),(3,[]),(4,[0,1]),(5,[0,1,5]),(6,[0,1,5]),(7,[0,1,5]),(8,[0,1,5]),(9,[]),(10,[1]),(1000005,[1,4])]),
 (111,.code c111 [.val] [] [(2,none)] [(0,[0]),(1,[0]),(2,[0,3]),(3,[0,3,4]),(4,[0,3,4]),(5,[0,3,4]),(6,[3]),(1000003,[3])]),
 (112,.code c112 [.val] [] [(2,none)] [(0,[0]),(1,[0]),(2,[0,3]),(3,[0,3,4]),(4,[0,3,4]),(5,[0,3,4]),(6,[3]),(1000003,[3])]),
 (113,.code c113 [.val,.val] [] [(4,none)] [(0,[0,1]),(1,[0,1]),(2,[]),(3,[0,1]),(4,[0,1,5]),(5,[0,1,5]),(6,[0,1,5]),(7,[]),(8,[]),(1000004,[4])]),
 (114,.code c114 [.val,.val] [] [(4,none)] [(0,[0,1]),(1,[0,1]),(2,[]),(3,[0,1]),(4,[0,1,5]),(5,[0,1,5]),(6,[0,1,5]),(7,[]),(8,[]),(1000004,[4])]),
 (115,.code c115 [.io,.val] [0] [(4,none)] [(0,[0,1]),(1,[0,1]),(2,[0,1,5]),(3,[0,1,5]),(4,[0,1,5]),(5,[0,1,5]),(6,[0,1,5]),(7,[0,1,5]),(8,[0,1,5]),(9,[0,1]),(1000002,[0,1])]),
 (116,.code c116 [.io,.val] [0] [(4,none)] [(0,[0,1]),(1,[0,1]),(2,[0,1,5]),(3,[0,1,5]),(4,[0,1,5]),(5,[0,1,5]),(6,[0,1,5]),(7,[0,1,5]),(8,[0,1,5]),(9,[0,1,5]),(10,[0,1,5]),(11,[0,1,5]),(12,[0,1,5]),(13,[0,1]),(1000002,[0,1])]),
 (117,.code c117 [.val,.val] [] [(4,none)] [(0,[0,1]),(1,[0,1]),(2,[0,1,5]),(3,[0,1,5]),(4,[0,1,5]),(5,[]),(6,[0,1,5]),(7,[0,1,5]),(8,[]),(9,[0,1,5]),(10,[0,1,5]),(11,[0,1,5]),(12,[]),(13,[1]),(1000002,[1,4])]),
 (118,.code c118 [.val,.val] [] [(4,none)] [(0,[0,1]),(1,[0,1]),(2,[0,1,5]),(3,[0,1,5]),(4,[0,1,5]),(5,[0,1,5]),(6,[]),(7,[0,1,5]),(8,[]),(9,[0,1,5]),(10,[0,1,5]),(11,[]),(12,[0,1,5]),(13,[0,1,5]),(14,[]),(15,[0,1,5]),(16,[0,1,5]),(17,[]),(18,[0,1,5]),(19,[1]),(1000002,[1,4])]),
 (119,.code c119 [.val] [] [(2,none)] [(0,[0]),(1,[0])]),
 (121,.code c121 [.val] [] [(2,none)] [(0,[0]),(1,[0]),(2,[0,3]),(3,[0,3,10,11]),(4,[0,3,10,11]),(5,[0,3,4,10,11]),(6,[0,3,10,11]),(7,[3]),(1000003,[3])]),
 (122,.code c122 [.val,.val] [] [(4,none)] [(0,[0,1]),(1,[0,1]),(2,[0,1,5]),(3,[0,1,5]),(4,[0,1,5]),(5,[]),(6,[]),(1000002,[4])]),
 (123,.code c123 [.val,.val] [] [(4,none)] [(0,[0,1]),(1,[0,1]),(2,[0]),(3,[1])]),
 (124,.code c124 [.val] [] [(2,none)] [(0,[0]),(1,[0])]),
 (125,.code c125 [.val,.val] [] [(4,none)] [(0,[0,1]),(1,[0,1]),(2,[0]),(3,[1])]),
 (126,.code c126 [.val,.val,.val] [] [(6,none)] [(0,[0,1,2]),(1,[0,1,2]),(2,[0,1,2,7]),(3,[0,1,2,7,18,19]),(4,[0,1,2,7,18,19]),(5,[0,1,2,7,8,18,19]),(6,[0,1,2,7,9,18,19]),(7,[0,1,2,7,9,18,19]),(8,[0,1,2,7,9,18,19,35,36]),(9,[0,1,2,7,9,18,19,35,36]),(10,[0,1,2,7,9,10,18,19,35,36]),(11,[0,1,2,7,9,10,11,18,19,35,36]),(12,[0,1,2,7,9,10,11,18,19,35,36]),(13,[0,1,2,7,9,18,19,35,36]),(14,[0,1,2,7,18,19]),(15,[7]),(1000003,[7]),(1000008,[0,1,2,7,18,19,59,60])]),
 (127,.code c127 [.val] [] [(2,none)] [(0,[0]),(1,[1]),(2,[1,3,4]),(3,[1,3,4,8,9,10]),(4,[1,3,4,8,9,10]),(5,[1,3,4,6,8,9,10]),(6,[1,3,4,8,9,10]),(7,[3,4]),(1000003,[3,4])]),
 (128,.sem [.io,.val] (delFH 129 [.leaf,.leaf,.sl .own [.leaf]] [] prUnit)),
 (129,.code c129 [.val] [] [(2,none)] [(0,[0]),(1,[1])]),
 (133,.code c133 [.val,.val] [] [(4,none),(5,none)] [(0,[0,1]),(1,[0,1]),(2,[0,1,6]),(3,[0,1,6]),(4,[]),(5,[0,1,6]),(6,[]),(7,[0,1,6]),(8,[1]),(9,[0,1,6]),(10,[]),(11,[0,1,6]),(12,[]),(13,[0,1,6]),(14,[1]),(15,[])]),
 (136,.code c136 [.val,.val,.val,.val] [] [(8,none)] [(0,[0,1,2,3]),(1,[1,2,3,4])]),
 (137,.code c137 [.val] [] [(2,none)] [(0,[0]),(1,[0])]),
 (143,.code c143 [.val] [] [(2,none)] [(0,[0]),(1,[0])]),
 (144,.code c144 [.val] [] [(2,none)] [(0,[0]),(1,[0])]),
 (145,.code c145 [.val,.io] [1] [(4,some (true,5))] [(0,[0,1]),(1,[0,1,4])]),
 (146,.code c146 [.val] [] [(2,none)] [(0,[0]),(1,[0]),(2,[0,3]),(3,[0,3]),(4,[0,3]),(5,[]),(6,[0]),(1000002,[0,2])]),
 (147,.code c147 [.val] [] [(2,none)] [(0,[0]),(1,[0]),(2,[0,5,6]),(3,[0,5,6]),(4,[0,3,5,6]),(5,[]),(6,[0,5,6]),(7,[0]),(1000002,[0,2])]),
 (148,.code c148 [.val] [] [(2,none)] [(0,[0]),(1,[0])]),
 (149,.code c149 [.val] [] [(2,none)] [(0,[0]),(1,[0]),(2,[0,3]),(3,[0,3,8,9]),(4,[0,3,8,9]),(5,[0,3,4,8,9]),(6,[0,3,5,8,9]),(7,[0,3,5,8,9]),(8,[0,3,8,9]),(9,[3]),(1000003,[3])]),
 (150,.code c150 [.val,.val] [] [(4,none)] [(0,[0,1]),(1,[1,2]),(2,[1]),(3,[]),(4,[1])]),
 (151,.code c151 [.val,.val] [] [(4,none)] [(0,[0,1]),(1,[1,2]),(2,[1]),(3,[]),(4,[1])]),
 (152,.code c152 [.val] [] [(2,some (true,3))] [(0,[0]),(1,[1,2]),(2,[1,2,3]),(3,[1,2,3]),(4,[1,2,3]),(5,[2,3])]),
 (153,.code c153 [.val] [] [(2,some (true,5))] [(0,[0]),(1,[1,2]),(2,[1,2,3]),(3,[1,2,3]),(4,[1,2,3]),(5,[1,2,3]),(6,[1,2,3]),(7,[2,3])]),
 (154,.code c154 [.val,.val] [] [(4,none)] [(0,[0,1]),(1,[2,3]),(2,[]),(3,[2,3]),(4,[]),(5,[2,3]),(6,[]),(7,[])]),
 (155,.code c155 [.val,.val] [] [(4,none)] [(0,[0,1]),(1,[2,3]),(2,[]),(3,[2,3]),(4,[]),(5,[2,3]),(6,[]),(7,[2,3]),(8,[]),(9,[2,3]),(10,[]),(11,[])]),
 (156,.code c156 [.io,.val] [0] [(4,none)] [(0,[0,1]),(1,[0,1]),(2,[0,1,5]),(3,[0,1,5]),(4,[0,1,5]),(5,[0,1,5]),(6,[0,1]),(1000002,[0,1])]),
 (157,.code c157 [.io,.val] [0] [(4,none)] [(0,[0,1]),(1,[0,1]),(2,[0,1,5]),(3,[0,1,5]),(4,[0,1,5]),(5,[0,1,5]),(6,[0,1,5]),(7,[0,1,5]),(8,[0,1,5]),(9,[0,1]),(1000002,[0,1])]),
 (158,.code c158 [.val,.val] [] [(4,none)] [(0,[0,1]),(1,[0,1]),(2,[0,1,5]),(3,[0,1,5]),(4,[0,1,5]),(5,[]),(6,[0,1,5]),(7,[1]),(1000002,[1,4])]),
 (159,.code c159 [.val,.val] [] [(4,none)] [(0,[0,1]),(1,[0,1]),(2,[0,1,5]),(3,[0,1,5]),(4,[0,1,5]),(5,[]),(6,[0,1,5]),(7,[0,1,5]),(8,[]),(9,[0,1,5]),(10,[0,1,5]),(11,[0,1,5]),(12,[]),(13,[1]),(1000002,[1,4])]),
 (162,.code c162 [.val] [] [(2,none)] [(0,[0]),(1,[0]),(2,[0,3]),(3,[0,3,8,9]),(4,[0,3,8,9]),(5,[0,3,4,8,9]),(6,[0,3,8,9]),(7,[0,3]),(8,[0,3,5]),(9,[0,3,5,23,24]),(10,[0,3,5,23,24]),(11,[0,3,5,6,23,24]),(12,[0,3,5,6,23,24]),(13,[0,3,5,23,24]),(14,[5]),(1000003,[0,3,48]),(1000009,[5])]),
 (163,.code c163 [.val,.val] [] [(4,none)] [(0,[0,1]),(1,[0,1]),(2,[0,1,5]),(3,[0,1,5,6]),(4,[0,1,5,6,11,12,13]),(5,[0,1,5,6,11,12,13]),(6,[0,1,5,6,7,8,11,12,13]),(7,[0,1,5,6,11,12,13]),(8,[6]),(1000004,[6])]),
 (174,.code c174 [.val] [] [(2,none)] [(0,[0]),(1,[0])]),
 (177,.code c177 [.val] [] [(2,none)] [(0,[0]),(1,[0]),(2,[0,3]),(3,[0,3,4]),(4,[0]),(5,[0,3]),(6,[0,3,4]),(7,[0,3]),(8,[0,3,4]),(9,[]),(10,[0]),(11,[0,5])]),
 (178,.code c178 [.val] [] [(2,none)] [(0,[0]),(1,[0])]),
 (179,.code c179 [.val,.val] [] [(4,none)] [(0,[0,1]),(1,[0,1]),(2,[1]),(3,[]),(4,[1])]),
 (180,.code c180 [.val,.val] [] [(4,none)] [(0,[0,1]),(1,[0,1]),(2,[0,1]),(3,[]),(4,[0,1]),(5,[0,1,5]),(6,[0,1,5]),(7,[0,1,5]),(8,[0,1,5]),(9,[]),(10,[1]),(1000005,[1,4])]),
 (181,.code c181 [.val] [] [(2,none)] [(0,[0]),(1,[0]),(2,[0,3]),(3,[0,3,4]),(4,[0,3,4]),(5,[0,3,4]),(6,[3]),(1000003,[3])]),
 (182,.code c182 [.val] [] [(2,none)] [(0,[0]),(1,[0]),(2,[0,3]),(3,[0,3,4]),(4,[0,3,4]),(5,[0,3,4]),(6,[3]),(1000003,[3])]),
 (183,.code c183 [.val,.val] [] [(4,none)] [(0,[0,1]),(1,[0,1]),(2,[]),(3,[0,1]),(4,[0,1,5]),(5,[0,1,5]),(6,[0,1,5]),(7,[]),(8,[]),(1000004,[4])]),
 (184,.code c184 [.val,.val] [] [(4,none)] [(0,[0,1]),(1,[0,1]),(2,[]),(3,[0,1]),(4,[0,1,5]),(5,[0,1,5]),(6,[0,1,5]),(7,[]),(8,[]),(1000004,[4])]),
 (185,.code c185 [.val,.val] [] [(4,none)] [(0,[0,1]),(1,[0,1]),(2,[0,1]),(3,[0,1]),(4,[0,1]),(5,[0,1])]),
 (187,.code c187 [.val,.val] [] [(4,none)] [(0,[0,1]),(1,[0,1])]),
 (194,.code c194 [.val] [] [(2,none)] [(0,[0]),(1,[0])]),
 (195,.code c195 [.val,.val] [] [(4,none)] [(0,[0,1]),(1,[1,2]),(2,[1]),(3,[]),(4,[1])]),
 (196,.code c196 [.val] [] [(2,some (true,3))] [(0,[0]),(1,[1,2]),(2,[1,2,3]),(3,[1,2,3]),(4,[1,2,3]),(5,[2,3])]),
 (197,.code c197 [.val,.val] [] [(4,none)] [(0,[0,1]),(1,[2,3]),(2,[]),(3,[2,3]),(4,[]),(5,[2,3]),(6,[]),(7,[])]),
 (199,.code c199 [.val,.val] [] [(4,none)] [(0,[0,1]),(1,[0,1]),(2,[0,1,7,8]),(3,[0,1,7,8]),(4,[0,1,5,7,8]),(5,[5]),(6,[0,1,7,8]),(7,[]),(1000002,[4])]),
 (205,.code c205 [.val] [] [(2,none)] [(0,[0]),(1,[0])])]
def E:Env:=⟨fun t=>lookT tyTab t,lookF fnTab⟩
def fdAt (n:Nat):FD:=match lookF fnTab n with
 | some d=>d
 | none => .ext fun _=>none
def keepAt (n:Nat):List (Nat × List Nat):=match lookF fnTab n with
 | some d=>d.keep
 | none=>[]
theorem tysOk:TysOk Try.prog E:=tysOk_of (l:=tyTab) (fun _=>rfl) (by kernel_rfl)
abbrev FT (f:Nat):Prop:=FnTab Try.prog E f (fdAt f)
theorem ftS {f : Nat} {fn : Func} (c : Code) (hf : Try.prog.funcs[f]? = some fn) (hn : (fn.name == "runtime.NumGoroutine") = false := by kernel_rfl) (hb : fn.body = some c := by kernel_rfl) (h : tabOk E fn c (fdAt f).ms (fdAt f).os (fdAt f).rs = true := by kernel_rfl) (hd : fdAt f = .code c (fdAt f).ms (fdAt f).os (fdAt f).rs (fdAt f).keep := by kernel_rfl) : FT f := by unfold FT; rw [hd]; exact fnTab_code hf hn hb h
theorem ft11:FT 11:=ftS c11 Try.func11
theorem ft23:FT 23:=ftS c23 Try.func23
theorem ft55:FT 55:=ftS c55 Try.func55
theorem ft56:FT 56:=ftS c56 Try.func56
theorem ft57:FT 57:=ftS c57 Try.func57
theorem ft58:FT 58:=ftS c58 Try.func58
theorem ft59:FT 59:=ftS c59 Try.func59
theorem ft62:FT 62:=ftS c62 Try.func62
theorem ft63:FT 63:=ftS c63 Try.func63
theorem ft66:FT 66:=ftS c66 Try.func66
theorem ft67:FT 67:=ftS c67 Try.func67
theorem ft76:FT 76:=ftS c76 Try.func76
theorem ft78:FT 78:=ftS c78 Try.func78
theorem ft81:FT 81:=ftS c81 Try.func81
theorem ft83:FT 83:=ftS c83 Try.func83
theorem ft84:FT 84:=ftS c84 Try.func84
theorem ft87:FT 87:=ftS c87 Try.func87
theorem ft89:FT 89:=ftS c89 Try.func89
theorem ft91:FT 91:=ftS c91 Try.func91
theorem ft100:FT 100:=ftS c100 Try.func100
theorem ft101:FT 101:=ftS c101 Try.func101
theorem ft102:FT 102:=ftS c102 Try.func102
theorem ft103:FT 103:=ftS c103 Try.func103
theorem ft104:FT 104:=ftS c104 Try.func104
theorem ft105:FT 105:=ftS c105 Try.func105
theorem ft106:FT 106:=ftS c106 Try.func106
theorem ft107:FT 107:=ftS c107 Try.func107
theorem ft108:FT 108:=ftS c108 Try.func108
theorem ft109:FT 109:=ftS c109 Try.func109
theorem ft110:FT 110:=ftS c110 Try.func110
theorem ft111:FT 111:=ftS c111 Try.func111
theorem ft112:FT 112:=ftS c112 Try.func112
theorem ft113:FT 113:=ftS c113 Try.func113
theorem ft114:FT 114:=ftS c114 Try.func114
theorem ft115:FT 115:=ftS c115 Try.func115
theorem ft116:FT 116:=ftS c116 Try.func116
theorem ft117:FT 117:=ftS c117 Try.func117
theorem ft118:FT 118:=ftS c118 Try.func118
theorem ft119:FT 119:=ftS c119 Try.func119
theorem ft121:FT 121:=ftS c121 Try.func121
theorem ft122:FT 122:=ftS c122 Try.func122
theorem ft123:FT 123:=ftS c123 Try.func123
theorem ft124:FT 124:=ftS c124 Try.func124
theorem ft125:FT 125:=ftS c125 Try.func125
theorem ft126:FT 126:=ftS c126 Try.func126
theorem ft127:FT 127:=ftS c127 Try.func127
theorem ft128:FnTab Try.prog E 128 (.sem [.io,.val] (delFH 129 [.leaf,.leaf,.sl .own [.leaf]] [] prUnit)):=DS.ok128
theorem ft129:FT 129:=ftS c129 Try.func129
theorem ft133:FT 133:=ftS c133 Try.func133
theorem ft136:FT 136:=ftS c136 Try.func136
theorem ft137:FT 137:=ftS c137 Try.func137
theorem ft143:FT 143:=ftS c143 Try.func143
theorem ft144:FT 144:=ftS c144 Try.func144
theorem ft145:FT 145:=ftS c145 Try.func145
theorem ft146:FT 146:=ftS c146 Try.func146
theorem ft147:FT 147:=ftS c147 Try.func147
theorem ft148:FT 148:=ftS c148 Try.func148
theorem ft149:FT 149:=ftS c149 Try.func149
theorem ft150:FT 150:=ftS c150 Try.func150
theorem ft151:FT 151:=ftS c151 Try.func151
theorem ft152:FT 152:=ftS c152 Try.func152
theorem ft153:FT 153:=ftS c153 Try.func153
theorem ft154:FT 154:=ftS c154 Try.func154
theorem ft155:FT 155:=ftS c155 Try.func155
theorem ft156:FT 156:=ftS c156 Try.func156
theorem ft157:FT 157:=ftS c157 Try.func157
theorem ft158:FT 158:=ftS c158 Try.func158
theorem ft159:FT 159:=ftS c159 Try.func159
theorem ft162:FT 162:=ftS c162 Try.func162
theorem ft163:FT 163:=ftS c163 Try.func163
theorem ft174:FT 174:=ftS c174 Try.func174
theorem ft177:FT 177:=ftS c177 Try.func177
theorem ft178:FT 178:=ftS c178 Try.func178
theorem ft179:FT 179:=ftS c179 Try.func179
theorem ft180:FT 180:=ftS c180 Try.func180
theorem ft181:FT 181:=ftS c181 Try.func181
theorem ft182:FT 182:=ftS c182 Try.func182
theorem ft183:FT 183:=ftS c183 Try.func183
theorem ft184:FT 184:=ftS c184 Try.func184
theorem ft185:FT 185:=ftS c185 Try.func185
theorem ft187:FT 187:=ftS c187 Try.func187
theorem ft194:FT 194:=ftS c194 Try.func194
theorem ft195:FT 195:=ftS c195 Try.func195
theorem ft196:FT 196:=ftS c196 Try.func196
theorem ft197:FT 197:=ftS c197 Try.func197
theorem ft199:FT 199:=ftS c199 Try.func199
theorem ft205:FT 205:=ftS c205 Try.func205
theorem allFns:AllFns Try.prog E fnTab:=.cons ft11 (.cons ft23 (.cons ft55 (.cons ft56 (.cons ft57 (.cons ft58 (.cons ft59 (.cons ft62 (.cons ft63 (.cons ft66 (.cons ft67 (.cons ft76 (.cons ft78 (.cons ft81 (.cons ft83 (.cons ft84 (.cons ft87 (.cons ft89 (.cons ft91 (.cons ft100 (.cons ft101 (.cons ft102 (.cons ft103 (.cons ft104 (.cons ft105 (.cons ft106 (.cons ft107 (.cons ft108 (.cons ft109 (.cons ft110 (.cons ft111 (.cons ft112 (.cons ft113 (.cons ft114 (.cons ft115 (.cons ft116 (.cons ft117 (.cons ft118 (.cons ft119 (.cons ft121 (.cons ft122 (.cons ft123 (.cons ft124 (.cons ft125 (.cons ft126 (.cons ft127 (.cons ft128 (.cons ft129 (.cons ft133 (.cons ft136 (.cons ft137 (.cons ft143 (.cons ft144 (.cons ft145 (.cons ft146 (.cons ft147 (.cons ft148 (.cons ft149 (.cons ft150 (.cons ft151 (.cons ft152 (.cons ft153 (.cons ft154 (.cons ft155 (.cons ft156 (.cons ft157 (.cons ft158 (.cons ft159 (.cons ft162 (.cons ft163 (.cons ft174 (.cons ft177 (.cons ft178 (.cons ft179 (.cons ft180 (.cons ft181 (.cons ft182 (.cons ft183 (.cons ft184 (.cons ft185 (.cons ft187 (.cons ft194 (.cons ft195 (.cons ft196 (.cons ft197 (.cons ft199 (.cons ft205 (.nil)))))))))))))))))))))))))))))))))))))))))))))))))))))))))))))))))))))))))))))))))))))))
theorem fnOk:∀ f fd,E.fn f=some fd→FnTab Try.prog E f fd:=fnTab_of (l:=fnTab) (fun _=>rfl) allFns
abbrev FnS {V X:Type} (no:Nat) (P:List Arg) (S:Sig V) (A:RAlt X) (F:Nat→V→Option X):Prop:=∀ n v x,F n v=some x→evalFn E n no (flAs P (S.pk v))=some (A.enc x)
theorem fnS {V X:Type} {no:Nat} {P:List Arg} {S:Sig V} {A:RAlt X} {F:Nat→V→Option X} (c:Code) (O:Nat→Orc) (bs:List Code:=[]) (ha:∀ n,AllLp (O n) E (evalFn E n) n (keepAt no) bs:=by intro _;exact .nil) (hf:E.fn no=some (.code c (fdAt no).ms (fdAt no).os (fdAt no).rs (keepAt no)):=by kernel_rfl) (hO:∀ n,(O n).CfOk (evalFn E n):=by intro n;exact orcOf_cf _ _ n) (hb:topLoops c=bs:=by kernel_rfl) (h0:∀ v,F 0 v=none:=by intro _;rfl) (hs:∀ n v,F (n+1) v=fnK E (O n) no (flAs P (S.pk v)) A.dec:=by intro _ _;kernel_rfl):FnS no P S A F:=fn_pure O hf hO (fun n=>lpOk_of hb (ha n)) h0 hs
abbrev LpS (no:Nat) (c:Code) (i n:Nat) (O:Orc):Prop:=LpOk O E (evalFn E n) n (keepAt no) (.loop (loopAt c i))
theorem lpS {V X:Type} {no i:Nat} {c:Code} {O:Nat→Orc} (P:AS) (S:Sig V) (A:Alt X) (L:Nat→Nat→V→Option X) (bs:List Code:=[]) (ha:∀ n,AllLp (O n) E (evalFn E n) n (keepAt no) bs:=by intro _;exact .nil) (hO:∀ n,(O n).CfOk (evalFn E n):=by intro n;exact orcOf_cf _ _ n) (hb:topLoops (loopAt c i)=bs:=by kernel_rfl) (h0:∀ n v,L n 0 v=none:=by intro _ _;rfl)
  (hs:∀ n m v,L n (m+1) v=codeK E (O n) (keepAt no) (loopAt c i) (flAS P (S.pk v)) (fun ex σ'=>match ex with
    | .normal=>bd (mtAS P (Go.Desk.settle (keepOf (keepAt no) (firstId (loopAt c i))) σ')) fun ls=>bd (S.up ls) (L n m)
    | .exit id=>A.dec (.exit id) (Go.Desk.settle (keepOf (keepAt no) (outId (loopAt c i))) σ')
    | .ret=>A.dec .ret (Go.Desk.settle (keepOf (keepAt no) (outId (loopAt c i))) σ')):=by intro _ _ _;kernel_rfl)
  (hW:∀ n (β:Type) (σ:AS) (k:Ex→AS→Option β),(O n).lp (lid (loopAt c i)) σ k=bd (mtAS P σ) fun ls=>bd (S.up ls) fun v=>bd (L n n v) fun x=>A.out x k:=by intro _ _ _ _;kernel_rfl):∀ n,LpS no c i n (O n):=fun n=>lp_pure P S A (L n) (hO n) (lpOk_of hb (ha n)) (h0 n) (hs n) (hW n)
end Go.Proofs.Ytdobhipbgpiceaa.D
end
noncomputable section
namespace Go.Proofs.Ytdobhipbgpiceaa.D
open Go Go.Desk
abbrev qV0:Go.Desk.V:=⟨false,[.rf .shr [.sl .shr [.leaf,.leaf,.sl .shr [.leaf]],.sl .shr [.sl .shr [.leaf,.leaf,.sl .shr [.leaf]],.leaf,.leaf,.leaf,.leaf]]],[.ref [.lst 0 [],.lst 0 []]]⟩
abbrev qV1:Go.Desk.V:=⟨true,[.sl .shr [.leaf,.leaf,.sl .shr [.leaf]],.sl .shr [.sl .shr [.leaf,.leaf,.sl .shr [.leaf]],.leaf,.leaf,.leaf,.leaf]],[.lst 0 [],.lst 0 []]⟩
abbrev qV2:Go.Desk.V:=⟨true,[.sl .own [.leaf,.leaf,.sl .own [.leaf]],.sl .own [.sl .own [.leaf,.leaf,.sl .own [.leaf]],.leaf,.leaf,.leaf,.leaf]],[.lst 0 [],.lst 0 []]⟩
abbrev qV3:Go.Desk.V:=⟨true,[.sl .shr [.leaf,.leaf,.sl .shr [.leaf]],.leaf,.leaf,.leaf,.leaf],[.lst 0 [],.int .i64 0,.flt .f32 0,.bool false,.bool false]⟩
abbrev qV4:Go.Desk.V:=⟨false,[.sl .shr [.sl .shr [.leaf,.leaf,.sl .shr [.leaf]],.leaf,.leaf,.leaf,.leaf]],[.lst 0 []]⟩
abbrev qV5:Go.Desk.V:=⟨false,[.sl .own [.sl .own [.leaf,.leaf,.sl .own [.leaf]],.leaf,.leaf,.leaf,.leaf]],[.lst 0 []]⟩
abbrev qV6:Go.Desk.V:=⟨false,[.rf .shr [.leaf,.leaf,.sl .shr [.leaf]]],[.ref [.int .i64 0,.int .i64 0,.lst 0 []]]⟩
abbrev qV7:Go.Desk.V:=⟨true,[.leaf,.leaf,.sl .shr [.leaf]],[.int .i64 0,.int .i64 0,.lst 0 []]⟩
abbrev qV8:Go.Desk.V:=⟨true,[.leaf,.leaf,.sl .own [.leaf]],[.int .i64 0,.int .i64 0,.lst 0 []]⟩
abbrev qV9:Go.Desk.V:=⟨false,[.sl .shr [.leaf,.leaf,.sl .shr [.leaf]]],[.lst 0 []]⟩
abbrev qV10:Go.Desk.V:=⟨false,[.sl .own [.leaf,.leaf,.sl .own [.leaf]]],[.lst 0 []]⟩
abbrev qV11:Go.Desk.V:=⟨false,[.sl .shr [.leaf]],[.lst 0 []]⟩
abbrev qV12:Go.Desk.V:=⟨false,[.sl .own [.leaf]],[.lst 0 []]⟩
abbrev qV13:Go.Desk.V:=⟨false,[.leaf],[.int .i64 0]⟩
abbrev qV14:Go.Desk.V:=⟨false,[.leaf],[.bool false]⟩
abbrev qV15:Go.Desk.V:=⟨false,[.leaf],[.flt .f32 0]⟩
abbrev qA16:Arg:=⟨.val,qV11⟩
abbrev qA17:Arg:=⟨.val,qV13⟩
abbrev qA18:Arg:=⟨.val,qV15⟩
abbrev qA19:Arg:=⟨.val,qV7⟩
abbrev qA20:Arg:=⟨.val,qV9⟩
abbrev qA21:Arg:=⟨.val,qV3⟩
abbrev qA22:Arg:=⟨.val,qV4⟩
abbrev qA23:Arg:=⟨.val,qV1⟩
abbrev qA24:Arg:=⟨.val,qV6⟩
abbrev qA25:Arg:=⟨.val,qV0⟩
abbrev qS26:Slot:=.val false [.rf .shr [.sl .shr [.leaf,.leaf,.sl .shr [.leaf]],.sl .shr [.sl .shr [.leaf,.leaf,.sl .shr [.leaf]],.leaf,.leaf,.leaf,.leaf]]] [.ref [.lst 0 [],.lst 0 []]] [] 0
abbrev qS27:Slot:=.val false [.sl .shr [.sl .shr [.leaf,.leaf,.sl .shr [.leaf]],.leaf,.leaf,.leaf,.leaf]] [.lst 0 []] [] 0
abbrev qS28:Slot:=.val false [.sl .shr [.sl .shr [.leaf],.leaf,.leaf,.leaf,.leaf]] [.lst 0 []] [] 0
abbrev qS29:Slot:=.val false [.sl .shr [.leaf,.leaf,.sl .shr [.leaf]]] [.lst 0 []] [] 0
abbrev qS30:Slot:=.val false [.sl .own [.leaf,.leaf,.sl .own [.leaf]]] [.lst 0 []] [] 0
abbrev qS31:Slot:=.val false [.sl .own [.leaf,.leaf,.sl .own [.leaf]]] [.lst 0 []] [] 1
abbrev qS32:Slot:=.val false [.sl .shr [.leaf]] [.lst 0 []] [] 0
abbrev qS33:Slot:=.val false [.sl .own [.leaf]] [.lst 0 []] [] 0
abbrev qS34:Slot:=.val false [.leaf] [.int .i64 0] [] 0
abbrev qS35:Slot:=.val false [.leaf] [.bool false] [] 0
set_option linter.unusedVariables false
def x128.w:FnW E:=xDelUnit.w 3 129 [.leaf,.leaf,.sl .own [.leaf]] (by decide) (by decide) (by decide) (by decide) 128 (by kernel_rfl)
def f179:Nat→Nat→List T→Int→Option (Int)
 | 0,_,_,_=>none
 | n+1,n1,l2,i3 =>
   let i4:=(IntKind.i64.wrap (i3 - (n1:Int)))
   br (decide (i4<(0:Int))) (
    some (-1:Int)) (
    some i4)
def sg_li:Sig (Nat × List T × Int) where
 pk:=fun v=>[.lst v.1 v.2.1,.int v.2.2]
 up:=fun ls=>match ls with
  | [.lst a0 a1,.int a2]=>some (a0,a1,a2)
  | _=>none
 ok:=by intro _ _ h;split at h <;>cases h;rfl
def sg_i:Sig (Int) where
 pk:=fun v=>[.int v]
 up:=fun ls=>match ls with
  | [.int a0]=>some a0
  | _=>none
 ok:=by intro _ _ h;split at h <;>cases h;rfl
def f179.P:List Arg:=[qA16,qA17]
def f179.A:RAlt (Int):=.one ⟨[qV13],[none,none]⟩ sg_i
def f179.F (n:Nat) (v:Nat × List T × Int):=f179 n v.1 v.2.1 v.2.2
def f179.O (n:Nat):Orc:=orcOf (E:=E) [] [] n
theorem f179.ok:FnS 179 f179.P sg_li f179.A f179.F:=fnS c179 f179.O
def f179.w:FnW E:=fnW 179 f179.P sg_li f179.A f179.F f179.ok
def f150:Nat→Int→Int→Nat→List T→Int→Option (Int)
 | 0,_,_,_,_,_=>none
 | n+1,i1,i2,n3,l4,i5 =>
   bd (f179 n n3 l4 i5) fun r6 =>
   let i7:=r6
   br (decide (i7<(0:Int))) (
    some (-1:Int)) (
    some i7)
def sg_iili:Sig (Int × Int × Nat × List T × Int) where
 pk:=fun v=>[.int v.1,.int v.2.1,.lst v.2.2.1 v.2.2.2.1,.int v.2.2.2.2]
 up:=fun ls=>match ls with
  | [.int a0,.int a1,.lst a2 a3,.int a4]=>some (a0,a1,a2,a3,a4)
  | _=>none
 ok:=by intro _ _ h;split at h <;>cases h;rfl
def f150.P:List Arg:=[qA19,qA17]
def f150.A:RAlt (Int):=.one ⟨[qV13],[none,none]⟩ sg_i
def f150.F (n:Nat) (v:Int × Int × Nat × List T × Int):=f150 n v.1 v.2.1 v.2.2.1 v.2.2.2.1 v.2.2.2.2
def f150.O (n:Nat):Orc:=orcOf (E:=E) [f179.w] [] n
theorem f150.ok:FnS 150 f150.P sg_iili f150.A f150.F:=fnS c150 f150.O
def f150.w:FnW E:=fnW 150 f150.P sg_iili f150.A f150.F f150.ok
def f109.l0 (n:Nat):Nat→Nat→List T→Int→Int→Option ((Int) ⊕ (Int))
 | 0,_,_,_,_=>none
 | m+1,n1,l2,i3,i4 =>
   br (decide (i4<(n1:Int))) (
    gd ((decide ((0≤i4)∧(i4<(n1:Int))))&&(okAt [(CK.int .i64),(CK.int .i64),CK.lst] l2 (((Int.toNat i4) * 3)+0))) (
    bd (f150 n (iAt l2 (((Int.toNat i4) * 3)+0)) (iAt l2 ((((Int.toNat i4) * 3)+0)+1)) (nAt l2 (((((Int.toNat i4) * 3)+0)+1)+1)) (lAt l2 (((((Int.toNat i4) * 3)+0)+1)+1)) i3) fun r5 =>
    let i6:=r5
    br (decide (i6<(0:Int))) (
     some (Sum.inl (-1:Int))) (
     f109.l0 n m n1 l2 i6 (IntKind.i64.wrap (i4+(1:Int)))))) (
    some (Sum.inr i3))
def f109:Nat→Nat→List T→Int→Option (Int)
 | 0,_,_,_=>none
 | n+1,n1,l2,i3 =>
   let i4:=(IntKind.i64.wrap (i3 - (n1:Int)))
   br (decide (i4<(0:Int))) (
    some (-1:Int)) (
    bd (f109.l0 n n n1 l2 i4 (0:Int)) fun r5 =>
    sm r5 (fun u6 =>
     let i7:=u6
     some i7) (fun u8 =>
     let i9:=u8
     some i9))
def sg_lii:Sig (Nat × List T × Int × Int) where
 pk:=fun v=>[.lst v.1 v.2.1,.int v.2.2.1,.int v.2.2.2]
 up:=fun ls=>match ls with
  | [.lst a0 a1,.int a2,.int a3]=>some (a0,a1,a2,a3)
  | _=>none
 ok:=by intro _ _ h;split at h <;>cases h;rfl
def f109.l0.P:AS:=⟨[(0,qS29),(1,qS34),(5,qS34)],0⟩
def f109.l0.A:Alt ((Int) ⊕ (Int)):=.or (.one .ret ⟨[(1,.dead),(4,qS34)],0⟩ sg_i) (.one (.exit 0) ⟨[(1,qS34),(4,.dead)],0⟩ sg_i)
def f109.l0.F (n m:Nat) (v:Nat × List T × Int × Int):=f109.l0 n m v.1 v.2.1 v.2.2.1 v.2.2.2
def f109.l0.W (n:Nat):LpW:=.of 80 f109.l0.P sg_lii f109.l0.A (f109.l0.F n n)
def f109.P:List Arg:=[qA20,qA17]
def f109.A:RAlt (Int):=.one ⟨[qV13],[none,none]⟩ sg_i
def f109.F (n:Nat) (v:Nat × List T × Int):=f109 n v.1 v.2.1 v.2.2
def f109.O (n:Nat):Orc:=orcOf (E:=E) [f150.w] [f109.l0.W n] n
theorem f109.l0.ok:∀ n,LpS 109 c109 0 n (f109.O n):=lpS f109.l0.P sg_lii f109.l0.A f109.l0.F
theorem f109.ok:FnS 109 f109.P sg_li f109.A f109.F:=fnS c109 f109.O [loopAt c109 0] (fun n=>(.cons (f109.l0.ok n) .nil))
def f109.w:FnW E:=fnW 109 f109.P sg_li f109.A f109.F f109.ok
def f195:Nat→Int→Int→Nat→List T→Int→Option (Int)
 | 0,_,_,_,_,_=>none
 | n+1,i1,i2,n3,l4,i5 =>
   bd (f179 n n3 l4 i5) fun r6 =>
   let i7:=r6
   br (decide (i7<(0:Int))) (
    some (-1:Int)) (
    some i7)
def f195.P:List Arg:=[qA19,qA17]
def f195.A:RAlt (Int):=.one ⟨[qV13],[none,none]⟩ sg_i
def f195.F (n:Nat) (v:Int × Int × Nat × List T × Int):=f195 n v.1 v.2.1 v.2.2.1 v.2.2.2.1 v.2.2.2.2
def f195.O (n:Nat):Orc:=orcOf (E:=E) [f179.w] [] n
theorem f195.ok:FnS 195 f195.P sg_iili f195.A f195.F:=fnS c195 f195.O
def f195.w:FnW E:=fnW 195 f195.P sg_iili f195.A f195.F f195.ok
def f180.l0 (n:Nat):Nat→Nat→List T→Int→Int→Option ((Int) ⊕ (Int))
 | 0,_,_,_,_=>none
 | m+1,n1,l2,i3,i4 =>
   br (decide (i4<(n1:Int))) (
    gd ((decide ((0≤i4)∧(i4<(n1:Int))))&&(okAt [(CK.int .i64),(CK.int .i64),CK.lst] l2 (((Int.toNat i4) * 3)+0))) (
    bd (f195 n (iAt l2 (((Int.toNat i4) * 3)+0)) (iAt l2 ((((Int.toNat i4) * 3)+0)+1)) (nAt l2 (((((Int.toNat i4) * 3)+0)+1)+1)) (lAt l2 (((((Int.toNat i4) * 3)+0)+1)+1)) i3) fun r5 =>
    let i6:=r5
    br (decide (i6<(0:Int))) (
     some (Sum.inl (-1:Int))) (
     f180.l0 n m n1 l2 i6 (IntKind.i64.wrap (i4+(1:Int)))))) (
    some (Sum.inr i3))
def f180:Nat→Nat→List T→Int→Option (Int)
 | 0,_,_,_=>none
 | n+1,n1,l2,i3 =>
   let i4:=(IntKind.i64.wrap (i3 - (n1:Int)))
   br (decide (i4<(0:Int))) (
    some (-1:Int)) (
    bd (f180.l0 n n n1 l2 i4 (0:Int)) fun r5 =>
    sm r5 (fun u6 =>
     let i7:=u6
     some i7) (fun u8 =>
     let i9:=u8
     some i9))
def f180.l0.P:AS:=⟨[(0,qS29),(1,qS34),(5,qS34)],0⟩
def f180.l0.A:Alt ((Int) ⊕ (Int)):=.or (.one .ret ⟨[(1,.dead),(4,qS34)],0⟩ sg_i) (.one (.exit 0) ⟨[(1,qS34),(4,.dead)],0⟩ sg_i)
def f180.l0.F (n m:Nat) (v:Nat × List T × Int × Int):=f180.l0 n m v.1 v.2.1 v.2.2.1 v.2.2.2
def f180.l0.W (n:Nat):LpW:=.of 80 f180.l0.P sg_lii f180.l0.A (f180.l0.F n n)
def f180.P:List Arg:=[qA20,qA17]
def f180.A:RAlt (Int):=.one ⟨[qV13],[none,none]⟩ sg_i
def f180.F (n:Nat) (v:Nat × List T × Int):=f180 n v.1 v.2.1 v.2.2
def f180.O (n:Nat):Orc:=orcOf (E:=E) [f195.w] [f180.l0.W n] n
theorem f180.l0.ok:∀ n,LpS 180 c180 0 n (f180.O n):=lpS f180.l0.P sg_lii f180.l0.A f180.l0.F
theorem f180.ok:FnS 180 f180.P sg_li f180.A f180.F:=fnS c180 f180.O [loopAt c180 0] (fun n=>(.cons (f180.l0.ok n) .nil))
def f180.w:FnW E:=fnW 180 f180.P sg_li f180.A f180.F f180.ok
def f151:Nat→Nat→List T→Int→Nat→Bool→Bool→Int→Option (Int)
 | 0,_,_,_,_,_,_,_=>none
 | n+1,n1,l2,i3,x4,b5,b6,i7 =>
   bd (f180 n n1 l2 i7) fun r8 =>
   let i9:=r8
   br (decide (i9<(0:Int))) (
    some (-1:Int)) (
    some i9)
def sg_lifbbi:Sig (Nat × List T × Int × Nat × Bool × Bool × Int) where
 pk:=fun v=>[.lst v.1 v.2.1,.int v.2.2.1,.flt v.2.2.2.1,.bool v.2.2.2.2.1,.bool v.2.2.2.2.2.1,.int v.2.2.2.2.2.2]
 up:=fun ls=>match ls with
  | [.lst a0 a1,.int a2,.flt a3,.bool a4,.bool a5,.int a6]=>some (a0,a1,a2,a3,a4,a5,a6)
  | _=>none
 ok:=by intro _ _ h;split at h <;>cases h;rfl
def f151.P:List Arg:=[qA21,qA17]
def f151.A:RAlt (Int):=.one ⟨[qV13],[none,none]⟩ sg_i
def f151.F (n:Nat) (v:Nat × List T × Int × Nat × Bool × Bool × Int):=f151 n v.1 v.2.1 v.2.2.1 v.2.2.2.1 v.2.2.2.2.1 v.2.2.2.2.2.1 v.2.2.2.2.2.2
def f151.O (n:Nat):Orc:=orcOf (E:=E) [f180.w] [] n
theorem f151.ok:FnS 151 f151.P sg_lifbbi f151.A f151.F:=fnS c151 f151.O
def f151.w:FnW E:=fnW 151 f151.P sg_lifbbi f151.A f151.F f151.ok
def f110.l0 (n:Nat):Nat→Nat→List T→Int→Int→Option ((Int) ⊕ (Int))
 | 0,_,_,_,_=>none
 | m+1,n1,l2,i3,i4 =>
   br (decide (i4<(n1:Int))) (
    gd ((decide ((0≤i4)∧(i4<(n1:Int))))&&(okAt [CK.lst,(CK.int .i64),(CK.flt .f32),CK.bool,CK.bool] l2 (((Int.toNat i4) * 5)+0))) (
    bd (f151 n (nAt l2 (((Int.toNat i4) * 5)+0)) (lAt l2 (((Int.toNat i4) * 5)+0)) (iAt l2 ((((Int.toNat i4) * 5)+0)+1)) (fAt l2 (((((Int.toNat i4) * 5)+0)+1)+1)) (bAt l2 ((((((Int.toNat i4) * 5)+0)+1)+1)+1)) (bAt l2 (((((((Int.toNat i4) * 5)+0)+1)+1)+1)+1)) i3) fun r5 =>
    let i6:=r5
    br (decide (i6<(0:Int))) (
     some (Sum.inl (-1:Int))) (
     f110.l0 n m n1 l2 i6 (IntKind.i64.wrap (i4+(1:Int)))))) (
    some (Sum.inr i3))
def f110:Nat→Nat→List T→Int→Option (Int)
 | 0,_,_,_=>none
 | n+1,n1,l2,i3 =>
   let i4:=(IntKind.i64.wrap (i3 - (n1:Int)))
   br (decide (i4<(0:Int))) (
    some (-1:Int)) (
    bd (f110.l0 n n n1 l2 i4 (0:Int)) fun r5 =>
    sm r5 (fun u6 =>
     let i7:=u6
     some i7) (fun u8 =>
     let i9:=u8
     some i9))
def f110.l0.P:AS:=⟨[(0,qS27),(1,qS34),(5,qS34)],0⟩
def f110.l0.A:Alt ((Int) ⊕ (Int)):=.or (.one .ret ⟨[(1,.dead),(4,qS34)],0⟩ sg_i) (.one (.exit 0) ⟨[(1,qS34),(4,.dead)],0⟩ sg_i)
def f110.l0.F (n m:Nat) (v:Nat × List T × Int × Int):=f110.l0 n m v.1 v.2.1 v.2.2.1 v.2.2.2
def f110.l0.W (n:Nat):LpW:=.of 80 f110.l0.P sg_lii f110.l0.A (f110.l0.F n n)
def f110.P:List Arg:=[qA22,qA17]
def f110.A:RAlt (Int):=.one ⟨[qV13],[none,none]⟩ sg_i
def f110.F (n:Nat) (v:Nat × List T × Int):=f110 n v.1 v.2.1 v.2.2
def f110.O (n:Nat):Orc:=orcOf (E:=E) [f151.w] [f110.l0.W n] n
theorem f110.l0.ok:∀ n,LpS 110 c110 0 n (f110.O n):=lpS f110.l0.P sg_lii f110.l0.A f110.l0.F
theorem f110.ok:FnS 110 f110.P sg_li f110.A f110.F:=fnS c110 f110.O [loopAt c110 0] (fun n=>(.cons (f110.l0.ok n) .nil))
def f110.w:FnW E:=fnW 110 f110.P sg_li f110.A f110.F f110.ok
def f55:Nat→Nat→List T→Nat→List T→Int→Option (Int)
 | 0,_,_,_,_,_=>none
 | n+1,n1,l2,n3,l4,i5 =>
   bd (f109 n n1 l2 i5) fun r6 =>
   let i7:=r6
   br (decide (i7<(0:Int))) (
    some (-1:Int)) (
    bd (f110 n n3 l4 i7) fun r8 =>
    let i9:=r8
    br (decide (i9<(0:Int))) (
     some (-1:Int)) (
     some i9))
def sg_lli:Sig (Nat × List T × Nat × List T × Int) where
 pk:=fun v=>[.lst v.1 v.2.1,.lst v.2.2.1 v.2.2.2.1,.int v.2.2.2.2]
 up:=fun ls=>match ls with
  | [.lst a0 a1,.lst a2 a3,.int a4]=>some (a0,a1,a2,a3,a4)
  | _=>none
 ok:=by intro _ _ h;split at h <;>cases h;rfl
def f55.P:List Arg:=[qA23,qA17]
def f55.A:RAlt (Int):=.one ⟨[qV13],[none,none]⟩ sg_i
def f55.F (n:Nat) (v:Nat × List T × Nat × List T × Int):=f55 n v.1 v.2.1 v.2.2.1 v.2.2.2.1 v.2.2.2.2
def f55.O (n:Nat):Orc:=orcOf (E:=E) [f109.w,f110.w] [] n
theorem f55.ok:FnS 55 f55.P sg_lli f55.A f55.F:=fnS c55 f55.O
def f55.w:FnW E:=fnW 55 f55.P sg_lli f55.A f55.F f55.ok
def f181.l0 (n:Nat):Nat→Nat→List T→Nat→List T→Int→Option (Nat × List T)
 | 0,_,_,_,_,_=>none
 | m+1,n1,l2,n3,l4,i5 =>
   br (decide (i5<(n1:Int))) (
    gd ((decide ((0≤i5)∧(i5<(n1:Int))))&&(okAt [(CK.flt .f32)] l2 (Int.toNat i5))) (
    gd (decide ((0≤i5)∧(i5<(n3:Int)))) (
    gd (Nat.ble ((Int.toNat i5)+1) (List.length l4)) (
    let l6:=(setN l4 (Int.toNat i5) [(T.flt .f32 (fAt l2 (Int.toNat i5)))])
    f181.l0 n m n1 l2 n3 l6 (IntKind.i64.wrap (i5+(1:Int))))))) (
    some (n3,l4))
def f181:Nat→Nat→List T→Option (Nat × List T)
 | 0,_,_=>none
 | n+1,n1,l2 =>
   gd (decide ((0≤(n1:Int))∧((n1:Int)≤(2147483648:Int)))) (
   let l3:=(reps n1 [(T.flt .f32 0)])
   bd (f181.l0 n n n1 l2 n1 l3 (0:Int)) fun r4 =>
   let n5:=r4.1
   let l6:=r4.2
   some (n5,l6))
def sg_l:Sig (Nat × List T) where
 pk:=fun v=>[.lst v.1 v.2]
 up:=fun ls=>match ls with
  | [.lst a0 a1]=>some (a0,a1)
  | _=>none
 ok:=by intro _ _ h;split at h <;>cases h;rfl
def f181.l0.P:AS:=⟨[(0,qS32),(3,qS33),(4,qS34)],0⟩
def f181.l0.A:Alt (Nat × List T):=.one (.exit 0) ⟨[(3,qS33)],0⟩ sg_l
def f181.l0.F (n m:Nat) (v:Nat × List T × Nat × List T × Int):=f181.l0 n m v.1 v.2.1 v.2.2.1 v.2.2.2.1 v.2.2.2.2
def f181.l0.W (n:Nat):LpW:=.of 48 f181.l0.P sg_lli f181.l0.A (f181.l0.F n n)
def f181.P:List Arg:=[qA16]
def f181.A:RAlt (Nat × List T):=.one ⟨[qV12],[none]⟩ sg_l
def f181.F (n:Nat) (v:Nat × List T):=f181 n v.1 v.2
def f181.O (n:Nat):Orc:=orcOf (E:=E) [] [f181.l0.W n] n
theorem f181.l0.ok:∀ n,LpS 181 c181 0 n (f181.O n):=lpS f181.l0.P sg_lli f181.l0.A f181.l0.F
theorem f181.ok:FnS 181 f181.P sg_l f181.A f181.F:=fnS c181 f181.O [loopAt c181 0] (fun n=>(.cons (f181.l0.ok n) .nil))
def f181.w:FnW E:=fnW 181 f181.P sg_l f181.A f181.F f181.ok
def f152:Nat→Int→Int→Nat→List T→Option (Int × Int × Nat × List T)
 | 0,_,_,_,_=>none
 | n+1,i1,i2,n3,l4 =>
   bd (f181 n n3 l4) fun r5 =>
   let n6:=r5.1
   let l7:=r5.2
   some (i1,i2,n6,l7)
def sg_iil:Sig (Int × Int × Nat × List T) where
 pk:=fun v=>[.int v.1,.int v.2.1,.lst v.2.2.1 v.2.2.2]
 up:=fun ls=>match ls with
  | [.int a0,.int a1,.lst a2 a3]=>some (a0,a1,a2,a3)
  | _=>none
 ok:=by intro _ _ h;split at h <;>cases h;rfl
def f152.P:List Arg:=[qA19]
def f152.A:RAlt (Int × Int × Nat × List T):=.one ⟨[qV8],[none]⟩ sg_iil
def f152.F (n:Nat) (v:Int × Int × Nat × List T):=f152 n v.1 v.2.1 v.2.2.1 v.2.2.2
def f152.O (n:Nat):Orc:=orcOf (E:=E) [f181.w] [] n
theorem f152.ok:FnS 152 f152.P sg_iil f152.A f152.F:=fnS c152 f152.O
def f152.w:FnW E:=fnW 152 f152.P sg_iil f152.A f152.F f152.ok
def f111.l0 (n:Nat):Nat→Nat→List T→Nat→List T→Int→Option (Nat × List T)
 | 0,_,_,_,_,_=>none
 | m+1,n1,l2,n3,l4,i5 =>
   br (decide (i5<(n1:Int))) (
    gd ((decide ((0≤i5)∧(i5<(n1:Int))))&&(okAt [(CK.int .i64),(CK.int .i64),CK.lst] l2 (((Int.toNat i5) * 3)+0))) (
    bd (f152 n (iAt l2 (((Int.toNat i5) * 3)+0)) (iAt l2 ((((Int.toNat i5) * 3)+0)+1)) (nAt l2 (((((Int.toNat i5) * 3)+0)+1)+1)) (lAt l2 (((((Int.toNat i5) * 3)+0)+1)+1))) fun r6 =>
    let i7:=r6.1
    let i8:=r6.2.1
    let n9:=r6.2.2.1
    let l10:=r6.2.2.2
    gd (decide ((0≤i5)∧(i5<(n3:Int)))) (
    gd (Nat.ble ((((Int.toNat i5) * 3)+0)+3) (List.length l4)) (
    let l11:=(setN l4 (((Int.toNat i5) * 3)+0) [(T.int .i64 i7),(T.int .i64 i8),(T.lst n9 l10)])
    f111.l0 n m n1 l2 n3 l11 (IntKind.i64.wrap (i5+(1:Int))))))) (
    some (n3,l4))
def f111:Nat→Nat→List T→Option (Nat × List T)
 | 0,_,_=>none
 | n+1,n1,l2 =>
   gd (decide ((0≤(n1:Int))∧((n1:Int)≤(2147483648:Int)))) (
   let l3:=(reps n1 [(T.int .i64 (0:Int)),(T.int .i64 (0:Int)),(T.lst 0 [])])
   bd (f111.l0 n n n1 l2 n1 l3 (0:Int)) fun r4 =>
   let n5:=r4.1
   let l6:=r4.2
   some (n5,l6))
def f111.l0.P:AS:=⟨[(0,qS29),(3,qS30),(4,qS34)],0⟩
def f111.l0.A:Alt (Nat × List T):=.one (.exit 0) ⟨[(3,qS30)],0⟩ sg_l
def f111.l0.F (n m:Nat) (v:Nat × List T × Nat × List T × Int):=f111.l0 n m v.1 v.2.1 v.2.2.1 v.2.2.2.1 v.2.2.2.2
def f111.l0.W (n:Nat):LpW:=.of 48 f111.l0.P sg_lli f111.l0.A (f111.l0.F n n)
def f111.P:List Arg:=[qA20]
def f111.A:RAlt (Nat × List T):=.one ⟨[qV10],[none]⟩ sg_l
def f111.F (n:Nat) (v:Nat × List T):=f111 n v.1 v.2
def f111.O (n:Nat):Orc:=orcOf (E:=E) [f152.w] [f111.l0.W n] n
theorem f111.l0.ok:∀ n,LpS 111 c111 0 n (f111.O n):=lpS f111.l0.P sg_lli f111.l0.A f111.l0.F
theorem f111.ok:FnS 111 f111.P sg_l f111.A f111.F:=fnS c111 f111.O [loopAt c111 0] (fun n=>(.cons (f111.l0.ok n) .nil))
def f111.w:FnW E:=fnW 111 f111.P sg_l f111.A f111.F f111.ok
def f196:Nat→Int→Int→Nat→List T→Option (Int × Int × Nat × List T)
 | 0,_,_,_,_=>none
 | n+1,i1,i2,n3,l4 =>
   bd (f181 n n3 l4) fun r5 =>
   let n6:=r5.1
   let l7:=r5.2
   some (i1,i2,n6,l7)
def f196.P:List Arg:=[qA19]
def f196.A:RAlt (Int × Int × Nat × List T):=.one ⟨[qV8],[none]⟩ sg_iil
def f196.F (n:Nat) (v:Int × Int × Nat × List T):=f196 n v.1 v.2.1 v.2.2.1 v.2.2.2
def f196.O (n:Nat):Orc:=orcOf (E:=E) [f181.w] [] n
theorem f196.ok:FnS 196 f196.P sg_iil f196.A f196.F:=fnS c196 f196.O
def f196.w:FnW E:=fnW 196 f196.P sg_iil f196.A f196.F f196.ok
def f182.l0 (n:Nat):Nat→Nat→List T→Nat→List T→Int→Option (Nat × List T)
 | 0,_,_,_,_,_=>none
 | m+1,n1,l2,n3,l4,i5 =>
   br (decide (i5<(n1:Int))) (
    gd ((decide ((0≤i5)∧(i5<(n1:Int))))&&(okAt [(CK.int .i64),(CK.int .i64),CK.lst] l2 (((Int.toNat i5) * 3)+0))) (
    bd (f196 n (iAt l2 (((Int.toNat i5) * 3)+0)) (iAt l2 ((((Int.toNat i5) * 3)+0)+1)) (nAt l2 (((((Int.toNat i5) * 3)+0)+1)+1)) (lAt l2 (((((Int.toNat i5) * 3)+0)+1)+1))) fun r6 =>
    let i7:=r6.1
    let i8:=r6.2.1
    let n9:=r6.2.2.1
    let l10:=r6.2.2.2
    gd (decide ((0≤i5)∧(i5<(n3:Int)))) (
    gd (Nat.ble ((((Int.toNat i5) * 3)+0)+3) (List.length l4)) (
    let l11:=(setN l4 (((Int.toNat i5) * 3)+0) [(T.int .i64 i7),(T.int .i64 i8),(T.lst n9 l10)])
    f182.l0 n m n1 l2 n3 l11 (IntKind.i64.wrap (i5+(1:Int))))))) (
    some (n3,l4))
def f182:Nat→Nat→List T→Option (Nat × List T)
 | 0,_,_=>none
 | n+1,n1,l2 =>
   gd (decide ((0≤(n1:Int))∧((n1:Int)≤(2147483648:Int)))) (
   let l3:=(reps n1 [(T.int .i64 (0:Int)),(T.int .i64 (0:Int)),(T.lst 0 [])])
   bd (f182.l0 n n n1 l2 n1 l3 (0:Int)) fun r4 =>
   let n5:=r4.1
   let l6:=r4.2
   some (n5,l6))
def f182.l0.P:AS:=⟨[(0,qS29),(3,qS30),(4,qS34)],0⟩
def f182.l0.A:Alt (Nat × List T):=.one (.exit 0) ⟨[(3,qS30)],0⟩ sg_l
def f182.l0.F (n m:Nat) (v:Nat × List T × Nat × List T × Int):=f182.l0 n m v.1 v.2.1 v.2.2.1 v.2.2.2.1 v.2.2.2.2
def f182.l0.W (n:Nat):LpW:=.of 48 f182.l0.P sg_lli f182.l0.A (f182.l0.F n n)
def f182.P:List Arg:=[qA20]
def f182.A:RAlt (Nat × List T):=.one ⟨[qV10],[none]⟩ sg_l
def f182.F (n:Nat) (v:Nat × List T):=f182 n v.1 v.2
def f182.O (n:Nat):Orc:=orcOf (E:=E) [f196.w] [f182.l0.W n] n
theorem f182.l0.ok:∀ n,LpS 182 c182 0 n (f182.O n):=lpS f182.l0.P sg_lli f182.l0.A f182.l0.F
theorem f182.ok:FnS 182 f182.P sg_l f182.A f182.F:=fnS c182 f182.O [loopAt c182 0] (fun n=>(.cons (f182.l0.ok n) .nil))
def f182.w:FnW E:=fnW 182 f182.P sg_l f182.A f182.F f182.ok
def f153:Nat→Nat→List T→Int→Nat→Bool→Bool→Option (Nat × List T × Int × Nat × Bool × Bool)
 | 0,_,_,_,_,_,_=>none
 | n+1,n1,l2,i3,x4,b5,b6 =>
   bd (f182 n n1 l2) fun r7 =>
   let n8:=r7.1
   let l9:=r7.2
   some (n8,l9,i3,x4,b5,b6)
def sg_lifbb:Sig (Nat × List T × Int × Nat × Bool × Bool) where
 pk:=fun v=>[.lst v.1 v.2.1,.int v.2.2.1,.flt v.2.2.2.1,.bool v.2.2.2.2.1,.bool v.2.2.2.2.2]
 up:=fun ls=>match ls with
  | [.lst a0 a1,.int a2,.flt a3,.bool a4,.bool a5]=>some (a0,a1,a2,a3,a4,a5)
  | _=>none
 ok:=by intro _ _ h;split at h <;>cases h;rfl
def f153.P:List Arg:=[qA21]
def f153.A:RAlt (Nat × List T × Int × Nat × Bool × Bool):=.one ⟨[⟨true,[.sl .own [.leaf,.leaf,.sl .own [.leaf]],.leaf,.leaf,.leaf,.leaf],[.lst 0 [],.int .i64 0,.flt .f32 0,.bool false,.bool false]⟩],[none]⟩ sg_lifbb
def f153.F (n:Nat) (v:Nat × List T × Int × Nat × Bool × Bool):=f153 n v.1 v.2.1 v.2.2.1 v.2.2.2.1 v.2.2.2.2.1 v.2.2.2.2.2
def f153.O (n:Nat):Orc:=orcOf (E:=E) [f182.w] [] n
theorem f153.ok:FnS 153 f153.P sg_lifbb f153.A f153.F:=fnS c153 f153.O
def f153.w:FnW E:=fnW 153 f153.P sg_lifbb f153.A f153.F f153.ok
def f112.l0 (n:Nat):Nat→Nat→List T→Nat→List T→Int→Option (Nat × List T)
 | 0,_,_,_,_,_=>none
 | m+1,n1,l2,n3,l4,i5 =>
   br (decide (i5<(n1:Int))) (
    gd ((decide ((0≤i5)∧(i5<(n1:Int))))&&(okAt [CK.lst,(CK.int .i64),(CK.flt .f32),CK.bool,CK.bool] l2 (((Int.toNat i5) * 5)+0))) (
    bd (f153 n (nAt l2 (((Int.toNat i5) * 5)+0)) (lAt l2 (((Int.toNat i5) * 5)+0)) (iAt l2 ((((Int.toNat i5) * 5)+0)+1)) (fAt l2 (((((Int.toNat i5) * 5)+0)+1)+1)) (bAt l2 ((((((Int.toNat i5) * 5)+0)+1)+1)+1)) (bAt l2 (((((((Int.toNat i5) * 5)+0)+1)+1)+1)+1))) fun r6 =>
    let n7:=r6.1
    let l8:=r6.2.1
    let i9:=r6.2.2.1
    let x10:=r6.2.2.2.1
    let b11:=r6.2.2.2.2.1
    let b12:=r6.2.2.2.2.2
    gd (decide ((0≤i5)∧(i5<(n3:Int)))) (
    gd (Nat.ble ((((Int.toNat i5) * 5)+0)+5) (List.length l4)) (
    let l13:=(setN l4 (((Int.toNat i5) * 5)+0) [(T.lst n7 l8),(T.int .i64 i9),(T.flt .f32 x10),(T.bool b11),(T.bool b12)])
    f112.l0 n m n1 l2 n3 l13 (IntKind.i64.wrap (i5+(1:Int))))))) (
    some (n3,l4))
def f112:Nat→Nat→List T→Option (Nat × List T)
 | 0,_,_=>none
 | n+1,n1,l2 =>
   gd (decide ((0≤(n1:Int))∧((n1:Int)≤(2147483648:Int)))) (
   let l3:=(reps n1 [(T.lst 0 []),(T.int .i64 (0:Int)),(T.flt .f32 0),(T.bool false),(T.bool false)])
   bd (f112.l0 n n n1 l2 n1 l3 (0:Int)) fun r4 =>
   let n5:=r4.1
   let l6:=r4.2
   some (n5,l6))
def f112.l0.P:AS:=⟨[(0,qS27),(3,.val false [.sl .own [.sl .own [.leaf,.leaf,.sl .own [.leaf]],.leaf,.leaf,.leaf,.leaf]] [.lst 0 []] [] 0),(4,qS34)],0⟩
def f112.l0.A:Alt (Nat × List T):=.one (.exit 0) ⟨[(3,.val false [.sl .own [.sl .own [.leaf,.leaf,.sl .own [.leaf]],.leaf,.leaf,.leaf,.leaf]] [.lst 0 []] [] 0)],0⟩ sg_l
def f112.l0.F (n m:Nat) (v:Nat × List T × Nat × List T × Int):=f112.l0 n m v.1 v.2.1 v.2.2.1 v.2.2.2.1 v.2.2.2.2
def f112.l0.W (n:Nat):LpW:=.of 48 f112.l0.P sg_lli f112.l0.A (f112.l0.F n n)
def f112.P:List Arg:=[qA22]
def f112.A:RAlt (Nat × List T):=.one ⟨[qV5],[none]⟩ sg_l
def f112.F (n:Nat) (v:Nat × List T):=f112 n v.1 v.2
def f112.O (n:Nat):Orc:=orcOf (E:=E) [f153.w] [f112.l0.W n] n
theorem f112.l0.ok:∀ n,LpS 112 c112 0 n (f112.O n):=lpS f112.l0.P sg_lli f112.l0.A f112.l0.F
theorem f112.ok:FnS 112 f112.P sg_l f112.A f112.F:=fnS c112 f112.O [loopAt c112 0] (fun n=>(.cons (f112.l0.ok n) .nil))
def f112.w:FnW E:=fnW 112 f112.P sg_l f112.A f112.F f112.ok
def f56:Nat→Nat→List T→Nat→List T→Option (Nat × List T × Nat × List T)
 | 0,_,_,_,_=>none
 | n+1,n1,l2,n3,l4 =>
   bd (f111 n n1 l2) fun r5 =>
   let n6:=r5.1
   let l7:=r5.2
   bd (f112 n n3 l4) fun r8 =>
   let n9:=r8.1
   let l10:=r8.2
   some (n6,l7,n9,l10)
def sg_ll:Sig (Nat × List T × Nat × List T) where
 pk:=fun v=>[.lst v.1 v.2.1,.lst v.2.2.1 v.2.2.2]
 up:=fun ls=>match ls with
  | [.lst a0 a1,.lst a2 a3]=>some (a0,a1,a2,a3)
  | _=>none
 ok:=by intro _ _ h;split at h <;>cases h;rfl
def f56.P:List Arg:=[qA23]
def f56.A:RAlt (Nat × List T × Nat × List T):=.one ⟨[qV2],[none]⟩ sg_ll
def f56.F (n:Nat) (v:Nat × List T × Nat × List T):=f56 n v.1 v.2.1 v.2.2.1 v.2.2.2
def f56.O (n:Nat):Orc:=orcOf (E:=E) [f111.w,f112.w] [] n
theorem f56.ok:FnS 56 f56.P sg_ll f56.A f56.F:=fnS c56 f56.O
def f56.w:FnW E:=fnW 56 f56.P sg_ll f56.A f56.F f56.ok
def f106:Nat→Int→Int→Int→Option (Bool)
 | 0,_,_,_=>none
 | n+1,i1,i2,i3 =>
   br (decide (i1≥i2)) (
    some (decide (i1≤i3))) (
    some false)
def sg_iii:Sig (Int × Int × Int) where
 pk:=fun v=>[.int v.1,.int v.2.1,.int v.2.2]
 up:=fun ls=>match ls with
  | [.int a0,.int a1,.int a2]=>some (a0,a1,a2)
  | _=>none
 ok:=by intro _ _ h;split at h <;>cases h;rfl
def sg_b:Sig (Bool) where
 pk:=fun v=>[.bool v]
 up:=fun ls=>match ls with
  | [.bool a0]=>some a0
  | _=>none
 ok:=by intro _ _ h;split at h <;>cases h;rfl
def f106.P:List Arg:=[qA17,qA17,qA17]
def f106.A:RAlt (Bool):=.one ⟨[qV14],[none,none,none]⟩ sg_b
def f106.F (n:Nat) (v:Int × Int × Int):=f106 n v.1 v.2.1 v.2.2
def f106.O (n:Nat):Orc:=orcOf (E:=E) [] [] n
theorem f106.ok:FnS 106 f106.P sg_iii f106.A f106.F:=fnS c106 f106.O
def f106.w:FnW E:=fnW 106 f106.P sg_iii f106.A f106.F f106.ok
def f145:Nat→Nat→List T→Int→Nat→Bool→Bool→Nat→List T→Option (Nat × List T × Int × Nat × Bool × Bool × Nat × List T)
 | 0,_,_,_,_,_,_,_,_=>none
 | n+1,n1,l2,i3,x4,b5,b6,n7,l8 =>
   some (n7,l8,i3,x4,b5,b6,n7,l8)
def sg_lifbbl:Sig (Nat × List T × Int × Nat × Bool × Bool × Nat × List T) where
 pk:=fun v=>[.lst v.1 v.2.1,.int v.2.2.1,.flt v.2.2.2.1,.bool v.2.2.2.2.1,.bool v.2.2.2.2.2.1,.lst v.2.2.2.2.2.2.1 v.2.2.2.2.2.2.2]
 up:=fun ls=>match ls with
  | [.lst a0 a1,.int a2,.flt a3,.bool a4,.bool a5,.lst a6 a7]=>some (a0,a1,a2,a3,a4,a5,a6,a7)
  | _=>none
 ok:=by intro _ _ h;split at h <;>cases h;rfl
def f145.P:List Arg:=[⟨.val,⟨false,[.rf .shr [.sl .shr [.leaf,.leaf,.sl .shr [.leaf]],.leaf,.leaf,.leaf,.leaf]],[.ref [.lst 0 [],.int .i64 0,.flt .f32 0,.bool false,.bool false]]⟩⟩,⟨.io,qV12⟩]
def f145.A:RAlt (Nat × List T × Int × Nat × Bool × Bool × Nat × List T):=.one ⟨[⟨true,[.sl .own [.leaf],.leaf,.leaf,.leaf,.leaf],[.lst 0 [],.int .i64 0,.flt .f32 0,.bool false,.bool false]⟩],[none,some ⟨false,[.dead],[.lst 0 []]⟩]⟩ sg_lifbbl
def f145.F (n:Nat) (v:Nat × List T × Int × Nat × Bool × Bool × Nat × List T):=f145 n v.1 v.2.1 v.2.2.1 v.2.2.2.1 v.2.2.2.2.1 v.2.2.2.2.2.1 v.2.2.2.2.2.2.1 v.2.2.2.2.2.2.2
def f145.O (n:Nat):Orc:=orcOf (E:=E) [] [] n
theorem f145.ok:FnS 145 f145.P sg_lifbbl f145.A f145.F:=fnS c145 f145.O
def f145.w:FnW E:=fnW 145 f145.P sg_lifbbl f145.A f145.F f145.ok
def f133:Nat→Int→Int→Option (Int × Int)
 | 0,_,_=>none
 | n+1,i1,i2 =>
   br (i1==(0:Int)) (
    br (i1==(0:Int)) (
     some ((1:Int),(0:Int))) (
     br (i1==(1:Int)) (
      some ((5:Int),(2:Int))) (
      br (i1==(2:Int)) (
       some ((2:Int),i2)) (
       br (i1==(3:Int)) (
        some ((4:Int),(1:Int))) (
        br (i1==(5:Int)) (
         some ((0:Int),(0:Int))) (
         br (i1==(6:Int)) (
          some ((2:Int),(IntKind.i64.wrap ((1:Int)+i2)))) (
          some ((-1:Int),(-1:Int))))))))) (
    br (i1==(4:Int)) (
     some ((1:Int),(0:Int))) (
     br (i1==(1:Int)) (
      some ((5:Int),(2:Int))) (
      br (i1==(2:Int)) (
       some ((2:Int),i2)) (
       br (i1==(3:Int)) (
        some ((4:Int),(1:Int))) (
        br (i1==(5:Int)) (
         some ((0:Int),(0:Int))) (
         br (i1==(6:Int)) (
          some ((2:Int),(IntKind.i64.wrap ((1:Int)+i2)))) (
          some ((-1:Int),(-1:Int)))))))))
def sg_ii:Sig (Int × Int) where
 pk:=fun v=>[.int v.1,.int v.2]
 up:=fun ls=>match ls with
  | [.int a0,.int a1]=>some (a0,a1)
  | _=>none
 ok:=by intro _ _ h;split at h <;>cases h;rfl
def f133.P:List Arg:=[qA17,qA17]
def f133.A:RAlt (Int × Int):=.one ⟨[qV13,qV13],[none,none]⟩ sg_ii
def f133.F (n:Nat) (v:Int × Int):=f133 n v.1 v.2
def f133.O (n:Nat):Orc:=orcOf (E:=E) [] [] n
theorem f133.ok:FnS 133 f133.P sg_ii f133.A f133.F:=fnS c133 f133.O
def f133.w:FnW E:=fnW 133 f133.P sg_ii f133.A f133.F f133.ok
def f205:Nat→Nat→Option (Bool)
 | 0,_=>none
 | n+1,x1 =>
   some (feq .f32 (fsub .f32 x1 x1) 0)
def sg_f:Sig (Nat) where
 pk:=fun v=>[.flt v]
 up:=fun ls=>match ls with
  | [.flt a0]=>some a0
  | _=>none
 ok:=by intro _ _ h;split at h <;>cases h;rfl
def f205.P:List Arg:=[qA18]
def f205.A:RAlt (Bool):=.one ⟨[qV14],[none]⟩ sg_b
def f205.F (n:Nat) (v:Nat):=f205 n v
def f205.O (n:Nat):Orc:=orcOf (E:=E) [] [] n
theorem f205.ok:FnS 205 f205.P sg_f f205.A f205.F:=fnS c205 f205.O
def f205.w:FnW E:=fnW 205 f205.P sg_f f205.A f205.F f205.ok
def f194:Nat→Nat→Option (Bool)
 | 0,_=>none
 | n+1,x1 =>
   bd (f205 n x1) fun r2 =>
   let b3:=r2
   br b3 (
    some (fgt .f32 x1 0)) (
    some false)
def f194.P:List Arg:=[qA18]
def f194.A:RAlt (Bool):=.one ⟨[qV14],[none]⟩ sg_b
def f194.F (n:Nat) (v:Nat):=f194 n v
def f194.O (n:Nat):Orc:=orcOf (E:=E) [f205.w] [] n
theorem f194.ok:FnS 194 f194.P sg_f f194.A f194.F:=fnS c194 f194.O
def f194.w:FnW E:=fnW 194 f194.P sg_f f194.A f194.F f194.ok
def f177:Nat→Int→Int→Nat→List T→Option (Bool)
 | 0,_,_,_,_=>none
 | n+1,i1,i2,n3,l4 =>
   br (i1==(2:Int)) (
    br (i1==(6:Int)) (
     bd (f106 n i2 (1:Int) (32:Int)) fun r5 =>
     let b6:=r5
     br (!b6) (
      some false) (
      bd (f133 n i1 i2) fun r7 =>
      let i8:=r7.1
      br ((n3:Int)==i8) (
       br (i1 != (6:Int)) (
        some true) (
        gd ((decide ((0≤(0:Int))∧((0:Int)<(n3:Int))))&&(okAt [(CK.flt .f32)] l4 0)) (
        bd (f194 n (fAt l4 0)) fun r10 =>
        let b11:=r10
        some b11))) (
       some false))) (
     bd (f106 n i2 (1:Int) (32:Int)) fun r12 =>
     let b13:=r12
     br (!b13) (
      some false) (
      bd (f133 n i1 i2) fun r14 =>
      let i15:=r14.1
      br ((n3:Int)==i15) (
       br (i1 != (6:Int)) (
        some true) (
        gd ((decide ((0≤(0:Int))∧((0:Int)<(n3:Int))))&&(okAt [(CK.flt .f32)] l4 0)) (
        bd (f194 n (fAt l4 0)) fun r17 =>
        let b18:=r17
        some b18))) (
       some false)))) (
    br (i1==(6:Int)) (
     bd (f106 n i2 (0:Int) (32:Int)) fun r19 =>
     let b20:=r19
     br (!b20) (
      some false) (
      bd (f133 n i1 i2) fun r21 =>
      let i22:=r21.1
      br ((n3:Int)==i22) (
       br (i1 != (6:Int)) (
        some true) (
        gd ((decide ((0≤(0:Int))∧((0:Int)<(n3:Int))))&&(okAt [(CK.flt .f32)] l4 0)) (
        bd (f194 n (fAt l4 0)) fun r24 =>
        let b25:=r24
        some b25))) (
       some false))) (
     bd (f106 n i2 (0:Int) (0:Int)) fun r26 =>
     let b27:=r26
     br (!b27) (
      some false) (
      bd (f133 n i1 i2) fun r28 =>
      let i29:=r28.1
      br ((n3:Int)==i29) (
       br (i1 != (6:Int)) (
        some true) (
        gd ((decide ((0≤(0:Int))∧((0:Int)<(n3:Int))))&&(okAt [(CK.flt .f32)] l4 0)) (
        bd (f194 n (fAt l4 0)) fun r31 =>
        let b32:=r31
        some b32))) (
       some false))))
def f177.P:List Arg:=[qA24]
def f177.A:RAlt (Bool):=.one ⟨[qV14],[none]⟩ sg_b
def f177.F (n:Nat) (v:Int × Int × Nat × List T):=f177 n v.1 v.2.1 v.2.2.1 v.2.2.2
def f177.O (n:Nat):Orc:=orcOf (E:=E) [f106.w,f133.w,f194.w] [] n
theorem f177.ok:FnS 177 f177.P sg_iil f177.A f177.F:=fnS c177 f177.O
def f177.w:FnW E:=fnW 177 f177.P sg_iil f177.A f177.F f177.ok
def f146.l0 (n:Nat):Nat→Nat→List T→Int→Option ((Bool) ⊕ (Nat × List T))
 | 0,_,_,_=>none
 | m+1,n1,l2,i3 =>
   br (decide (i3<(n1:Int))) (
    br (decide ((n1:Int)≤(8:Int))) (
     gd ((decide ((0≤i3)∧(i3<(n1:Int))))&&(okAt [(CK.int .i64),(CK.int .i64),CK.lst] l2 (((Int.toNat i3) * 3)+0))) (
     bd (f177 n (iAt l2 (((Int.toNat i3) * 3)+0)) (iAt l2 ((((Int.toNat i3) * 3)+0)+1)) (nAt l2 (((((Int.toNat i3) * 3)+0)+1)+1)) (lAt l2 (((((Int.toNat i3) * 3)+0)+1)+1))) fun r4 =>
     let b5:=r4
     br (!b5) (
      some (Sum.inl false)) (
      f146.l0 n m n1 l2 (IntKind.i64.wrap (i3+(1:Int)))))) (
     some (Sum.inr (n1,l2)))) (
    some (Sum.inr (n1,l2)))
def f146:Nat→Nat→List T→Option (Bool)
 | 0,_,_=>none
 | n+1,n1,l2 =>
   bd (f146.l0 n n n1 l2 (0:Int)) fun r3 =>
   sm r3 (fun u4 =>
    let b5:=u4
    some b5) (fun u6 =>
    let n7:=u6.1
    let l8:=u6.2
    some (decide ((n7:Int)≤(8:Int))))
def f146.l0.P:AS:=⟨[(0,qS29),(3,qS34)],0⟩
def f146.l0.A:Alt ((Bool) ⊕ (Nat × List T)):=.or (.one .ret ⟨[(0,.dead),(2,qS35)],0⟩ sg_b) (.one (.exit 0) ⟨[(0,qS29),(2,.dead)],0⟩ sg_l)
def f146.l0.F (n m:Nat) (v:Nat × List T × Int):=f146.l0 n m v.1 v.2.1 v.2.2
def f146.l0.W (n:Nat):LpW:=.of 32 f146.l0.P sg_li f146.l0.A (f146.l0.F n n)
def f146.P:List Arg:=[qA20]
def f146.A:RAlt (Bool):=.one ⟨[qV14],[none]⟩ sg_b
def f146.F (n:Nat) (v:Nat × List T):=f146 n v.1 v.2
def f146.O (n:Nat):Orc:=orcOf (E:=E) [f177.w] [f146.l0.W n] n
theorem f146.l0.ok:∀ n,LpS 146 c146 0 n (f146.O n):=lpS f146.l0.P sg_li f146.l0.A f146.l0.F
theorem f146.ok:FnS 146 f146.P sg_l f146.A f146.F:=fnS c146 f146.O [loopAt c146 0] (fun n=>(.cons (f146.l0.ok n) .nil))
def f146.w:FnW E:=fnW 146 f146.P sg_l f146.A f146.F f146.ok
def f148:Nat→Nat→List T→Option (Bool)
 | 0,_,_=>none
 | n+1,n1,l2 =>
   some (decide ((n1:Int)≤(256:Int)))
def f148.P:List Arg:=[qA16]
def f148.A:RAlt (Bool):=.one ⟨[qV14],[none]⟩ sg_b
def f148.F (n:Nat) (v:Nat × List T):=f148 n v.1 v.2
def f148.O (n:Nat):Orc:=orcOf (E:=E) [] [] n
theorem f148.ok:FnS 148 f148.P sg_l f148.A f148.F:=fnS c148 f148.O
def f148.w:FnW E:=fnW 148 f148.P sg_l f148.A f148.F f148.ok
def f178:Nat→Nat→Option (Bool)
 | 0,_=>none
 | n+1,x1 =>
   br (fge .f32 x1 0) (
    some (fle .f32 x1 1065353216)) (
    some false)
def f178.P:List Arg:=[qA18]
def f178.A:RAlt (Bool):=.one ⟨[qV14],[none]⟩ sg_b
def f178.F (n:Nat) (v:Nat):=f178 n v
def f178.O (n:Nat):Orc:=orcOf (E:=E) [] [] n
theorem f178.ok:FnS 178 f178.P sg_f f178.A f178.F:=fnS c178 f178.O
def f178.w:FnW E:=fnW 178 f178.P sg_f f178.A f178.F f178.ok
def f147.l0 (n:Nat):Nat→Nat→List T→Int→Int→Option ((Bool) ⊕ (Nat × List T))
 | 0,_,_,_,_=>none
 | m+1,n1,l2,i3,i4 =>
   br (decide (i4<i3)) (
    gd ((decide ((0≤i4)∧(i4<(n1:Int))))&&(okAt [CK.lst,(CK.int .i64),(CK.flt .f32),CK.bool,CK.bool] l2 (((Int.toNat i4) * 5)+0))) (
    bd (f148 n (nAt l2 (((Int.toNat i4) * 5)+0)) (lAt l2 (((Int.toNat i4) * 5)+0))) fun r5 =>
    let b6:=r5
    br (!b6) (
     some (Sum.inl false)) (
     gd ((decide ((0≤i4)∧(i4<(n1:Int))))&&(okAt [CK.lst,(CK.int .i64),(CK.flt .f32),CK.bool,CK.bool] l2 (((Int.toNat i4) * 5)+0))) (
     bd (f106 n (iAt l2 ((((Int.toNat i4) * 5)+0)+1)) (-2000:Int) (2000:Int)) fun r7 =>
     let b8:=r7
     br (!b8) (
      some (Sum.inl false)) (
      gd ((decide ((0≤i4)∧(i4<(n1:Int))))&&(okAt [CK.lst,(CK.int .i64),(CK.flt .f32),CK.bool,CK.bool] l2 (((Int.toNat i4) * 5)+0))) (
      bd (f178 n (fAt l2 (((((Int.toNat i4) * 5)+0)+1)+1))) fun r9 =>
      let b10:=r9
      br (!b10) (
       some (Sum.inl false)) (
       f147.l0 n m n1 l2 i3 (IntKind.i64.wrap (i4+(1:Int)))))))))) (
    some (Sum.inr (n1,l2)))
def f147:Nat→Nat→List T→Option (Bool)
 | 0,_,_=>none
 | n+1,n1,l2 =>
   bd (f147.l0 n n n1 l2 (n1:Int) (0:Int)) fun r3 =>
   sm r3 (fun u4 =>
    let b5:=u4
    some b5) (fun u6 =>
    let n7:=u6.1
    let l8:=u6.2
    some (decide ((n7:Int)≤(8:Int))))
def f147.l0.P:AS:=⟨[(0,qS28),(5,qS34),(6,qS34)],0⟩
def f147.l0.A:Alt ((Bool) ⊕ (Nat × List T)):=.or (.one .ret ⟨[(0,.dead),(2,qS35)],0⟩ sg_b) (.one (.exit 0) ⟨[(0,qS28),(2,.dead)],0⟩ sg_l)
def f147.l0.F (n m:Nat) (v:Nat × List T × Int × Int):=f147.l0 n m v.1 v.2.1 v.2.2.1 v.2.2.2
def f147.l0.W (n:Nat):LpW:=.of 32 f147.l0.P sg_lii f147.l0.A (f147.l0.F n n)
def f147.P:List Arg:=[⟨.val,⟨false,[.sl .shr [.sl .shr [.leaf],.leaf,.leaf,.leaf,.leaf]],[.lst 0 []]⟩⟩]
def f147.A:RAlt (Bool):=.one ⟨[qV14],[none]⟩ sg_b
def f147.F (n:Nat) (v:Nat × List T):=f147 n v.1 v.2
def f147.O (n:Nat):Orc:=orcOf (E:=E) [f106.w,f148.w,f178.w] [f147.l0.W n] n
theorem f147.l0.ok:∀ n,LpS 147 c147 0 n (f147.O n):=lpS f147.l0.P sg_lii f147.l0.A f147.l0.F
theorem f147.ok:FnS 147 f147.P sg_l f147.A f147.F:=fnS c147 f147.O [loopAt c147 0] (fun n=>(.cons (f147.l0.ok n) .nil))
def f147.w:FnW E:=fnW 147 f147.P sg_l f147.A f147.F f147.ok
def f105.l0 (n:Nat):Nat→Nat→List T→Nat→List T→Int→Int→Int→Option ((Bool) ⊕ (Nat × List T × Nat × List T × Int))
 | 0,_,_,_,_,_,_,_=>none
 | m+1,n1,l2,n3,l4,i5,i6,i7 =>
   br (decide (i7<i6)) (
    gd ((decide ((0≤i7)∧(i7<(n3:Int))))&&(okAt [CK.lst,(CK.int .i64),(CK.flt .f32),CK.bool,CK.bool] l4 (((Int.toNat i7) * 5)+0))) (
    bd (f145 n (nAt l4 (((Int.toNat i7) * 5)+0)) (lAt l4 (((Int.toNat i7) * 5)+0)) (iAt l4 ((((Int.toNat i7) * 5)+0)+1)) (fAt l4 (((((Int.toNat i7) * 5)+0)+1)+1)) (bAt l4 ((((((Int.toNat i7) * 5)+0)+1)+1)+1)) (bAt l4 (((((((Int.toNat i7) * 5)+0)+1)+1)+1)+1)) 0 (reps 0 [(T.flt .f32 0)])) fun r8 =>
    let n9:=r8.1
    let l10:=r8.2.1
    let i11:=r8.2.2.1
    let x12:=r8.2.2.2.1
    let b13:=r8.2.2.2.2.1
    let b14:=r8.2.2.2.2.2.1
    gd ((decide ((0≤i7)∧(i7<(n3:Int))))&&(okAt [CK.lst,(CK.int .i64),(CK.flt .f32),CK.bool,CK.bool] l4 (((Int.toNat i7) * 5)+0))) (
    bd (f146 n (nAt l4 (((Int.toNat i7) * 5)+0)) (lAt l4 (((Int.toNat i7) * 5)+0))) fun r17 =>
    let b18:=r17
    br (!b18) (
     some (Sum.inl false)) (
     bd (f147 n 1 (setN (reps 1 [(T.lst 0 []),(T.int .i64 (0:Int)),(T.flt .f32 0),(T.bool false),(T.bool false)]) 0 [(T.lst n9 l10),(T.int .i64 i11),(T.flt .f32 x12),(T.bool b13),(T.bool b14)])) fun r19 =>
     let b20:=r19
     br (!b20) (
      some (Sum.inl false)) (
      f105.l0 n m n1 l2 n3 l4 i5 i6 (IntKind.i64.wrap (i7+(1:Int)))))))) (
    some (Sum.inr (n1,l2,n3,l4,i5)))
def f105.l1 (n:Nat):Nat→Nat→List T→Nat→List T→Int→Int→Int→Option ((Bool) ⊕ (Unit))
 | 0,_,_,_,_,_,_,_=>none
 | m+1,n1,l2,n3,l4,i5,i6,i7 =>
   br (decide (i7<i6)) (
    gd ((decide ((0≤i7)∧(i7<(n1:Int))))&&(okAt [(CK.int .i64),(CK.int .i64),CK.lst] l2 (((Int.toNat i7) * 3)+0))) (
    bd (f106 n (iAt l2 (((Int.toNat i7) * 3)+0)) (0:Int) (IntKind.i64.wrap (i5 - (1:Int)))) fun r8 =>
    let b9:=r8
    br (!b9) (
     some (Sum.inl false)) (
     gd ((decide ((0≤i7)∧(i7<(n1:Int))))&&(okAt [(CK.int .i64),(CK.int .i64),CK.lst] l2 (((Int.toNat i7) * 3)+0))) (
     bd (f106 n (iAt l2 ((((Int.toNat i7) * 3)+0)+1)) (0:Int) (256:Int)) fun r10 =>
     let b11:=r10
     br (!b11) (
      some (Sum.inl false)) (
      gd ((decide ((0≤i7)∧(i7<(n1:Int))))&&(okAt [(CK.int .i64),(CK.int .i64),CK.lst] l2 (((Int.toNat i7) * 3)+0))) (
      bd (f148 n (nAt l2 (((((Int.toNat i7) * 3)+0)+1)+1)) (lAt l2 (((((Int.toNat i7) * 3)+0)+1)+1))) fun r12 =>
      let b13:=r12
      br (!b13) (
       some (Sum.inl false)) (
       f105.l1 n m n1 l2 n3 l4 i5 i6 (IntKind.i64.wrap (i7+(1:Int)))))))))) (
    some (Sum.inr ()))
def f105:Nat→Nat→List T→Nat→List T→Option (Bool)
 | 0,_,_,_,_=>none
 | n+1,n1,l2,n3,l4 =>
   let i5:=(n3:Int)
   bd (f106 n i5 (1:Int) (8:Int)) fun r6 =>
   let b7:=r6
   br (!b7) (
    some false) (
    br (decide ((n1:Int)>(12:Int))) (
     some false) (
     bd (f105.l0 n n n1 l2 n3 l4 i5 (n3:Int) (0:Int)) fun r8 =>
     sm r8 (fun u9 =>
      let b10:=u9
      some b10) (fun u11 =>
      let n12:=u11.1
      let l13:=u11.2.1
      let n14:=u11.2.2.1
      let l15:=u11.2.2.2.1
      let i16:=u11.2.2.2.2
      bd (f105.l1 n n n12 l13 n14 l15 i16 (n12:Int) (0:Int)) fun r17 =>
      sm r17 (fun u18 =>
       let b19:=u18
       some b19) (fun u20 =>
       some true))))
def sg_lliii:Sig (Nat × List T × Nat × List T × Int × Int × Int) where
 pk:=fun v=>[.lst v.1 v.2.1,.lst v.2.2.1 v.2.2.2.1,.int v.2.2.2.2.1,.int v.2.2.2.2.2.1,.int v.2.2.2.2.2.2]
 up:=fun ls=>match ls with
  | [.lst a0 a1,.lst a2 a3,.int a4,.int a5,.int a6]=>some (a0,a1,a2,a3,a4,a5,a6)
  | _=>none
 ok:=by intro _ _ h;split at h <;>cases h;rfl
def sg:Sig (Unit) where
 pk:=fun v=>[]
 up:=fun ls=>match ls with
  | []=>some ()
  | _=>none
 ok:=by intro _ _ h;split at h <;>cases h;rfl
def f105.l0.P:AS:=⟨[(0,qS26),(3,qS34),(27,qS34),(28,qS34)],0⟩
def f105.l0.A:Alt ((Bool) ⊕ (Nat × List T × Nat × List T × Int)):=.or (.one .ret ⟨[(0,.dead),(2,qS35),(3,.dead),(100,.dead)],0⟩ sg_b) (.one (.exit 0) ⟨[(0,qS26),(2,.dead),(3,qS34),(100,.dead)],0⟩ sg_lli)
def f105.l0.F (n m:Nat) (v:Nat × List T × Nat × List T × Int × Int × Int):=f105.l0 n m v.1 v.2.1 v.2.2.1 v.2.2.2.1 v.2.2.2.2.1 v.2.2.2.2.2.1 v.2.2.2.2.2.2
def f105.l0.W (n:Nat):LpW:=.of 80 f105.l0.P sg_lliii f105.l0.A (f105.l0.F n n)
def f105.l1.P:AS:=⟨[(0,qS26),(3,qS34),(60,qS34),(61,qS34)],0⟩
def f105.l1.A:Alt ((Bool) ⊕ (Unit)):=.or (.one .ret ⟨[(2,qS35)],0⟩ sg_b) (.one (.exit 2) ⟨[(2,.dead)],0⟩ sg)
def f105.l1.F (n m:Nat) (v:Nat × List T × Nat × List T × Int × Int × Int):=f105.l1 n m v.1 v.2.1 v.2.2.1 v.2.2.2.1 v.2.2.2.2.1 v.2.2.2.2.2.1 v.2.2.2.2.2.2
def f105.l1.W (n:Nat):LpW:=.of 192 f105.l1.P sg_lliii f105.l1.A (f105.l1.F n n)
def f105.P:List Arg:=[qA25]
def f105.A:RAlt (Bool):=.one ⟨[qV14],[none]⟩ sg_b
def f105.F (n:Nat) (v:Nat × List T × Nat × List T):=f105 n v.1 v.2.1 v.2.2.1 v.2.2.2
def f105.O (n:Nat):Orc:=orcOf (E:=E) [f106.w,f145.w,f146.w,f148.w,f147.w] [f105.l0.W n,f105.l1.W n] n
theorem f105.l0.ok:∀ n,LpS 105 c105 0 n (f105.O n):=lpS f105.l0.P sg_lliii f105.l0.A f105.l0.F
theorem f105.l1.ok:∀ n,LpS 105 c105 1 n (f105.O n):=lpS f105.l1.P sg_lliii f105.l1.A f105.l1.F
theorem f105.ok:FnS 105 f105.P sg_ll f105.A f105.F:=fnS c105 f105.O [loopAt c105 0,loopAt c105 1] (fun n=>(.cons (f105.l0.ok n) (.cons (f105.l1.ok n) .nil)))
def f105.w:FnW E:=fnW 105 f105.P sg_ll f105.A f105.F f105.ok
def f119:Nat→Nat→List T→Option (Nat × List T)
 | 0,_,_=>none
 | n+1,n1,l2 =>
   gd (Nat.ble (0+n1) 2147483648) (
   some ((0+n1),((reps 0 [(T.flt .f32 0)])++l2)))
def f119.P:List Arg:=[qA16]
def f119.A:RAlt (Nat × List T):=.one ⟨[qV12],[none]⟩ sg_l
def f119.F (n:Nat) (v:Nat × List T):=f119 n v.1 v.2
def f119.O (n:Nat):Orc:=orcOf (E:=E) [] [] n
theorem f119.ok:FnS 119 f119.P sg_l f119.A f119.F:=fnS c119 f119.O
def f119.w:FnW E:=fnW 119 f119.P sg_l f119.A f119.F f119.ok
def f108:Nat→Int→Int→Nat→List T→Option (Int × Int × Nat × List T)
 | 0,_,_,_,_=>none
 | n+1,i1,i2,n3,l4 =>
   bd (f119 n n3 l4) fun r5 =>
   let n6:=r5.1
   let l7:=r5.2
   some (i1,i2,n6,l7)
def f108.P:List Arg:=[qA24]
def f108.A:RAlt (Int × Int × Nat × List T):=.one ⟨[qV8],[none]⟩ sg_iil
def f108.F (n:Nat) (v:Int × Int × Nat × List T):=f108 n v.1 v.2.1 v.2.2.1 v.2.2.2
def f108.O (n:Nat):Orc:=orcOf (E:=E) [f119.w] [] n
theorem f108.ok:FnS 108 f108.P sg_iil f108.A f108.F:=fnS c108 f108.O
def f108.w:FnW E:=fnW 108 f108.P sg_iil f108.A f108.F f108.ok
def f107.l0 (n:Nat):Nat→Nat→List T→Nat→List T→Nat→List T→Nat→List T→Nat→List T→Nat→List T→Int→Int→Option (Nat × List T × Nat × List T × Nat × List T × Nat × List T × Nat × List T × Nat × List T)
 | 0,_,_,_,_,_,_,_,_,_,_,_,_,_,_=>none
 | m+1,n1,l2,n3,l4,n5,l6,n7,l8,n9,l10,n11,l12,i13,i14 =>
   br (decide (i14<i13)) (
    gd ((decide ((0≤i14)∧(i14<(n1:Int))))&&(okAt [(CK.int .i64),(CK.int .i64),CK.lst] l2 (((Int.toNat i14) * 3)+0))) (
    bd (f108 n (iAt l2 (((Int.toNat i14) * 3)+0)) (iAt l2 ((((Int.toNat i14) * 3)+0)+1)) (nAt l2 (((((Int.toNat i14) * 3)+0)+1)+1)) (lAt l2 (((((Int.toNat i14) * 3)+0)+1)+1))) fun r15 =>
    let i16:=r15.1
    let i17:=r15.2.1
    let n18:=r15.2.2.1
    let l19:=r15.2.2.2
    gd (Nat.ble (n9+1) 2147483648) (
    let n20:=(n9+1)
    let l21:=(l10++(setN (reps 1 [(T.int .i64 (0:Int)),(T.int .i64 (0:Int)),(T.lst 0 [])]) 0 [(T.int .i64 i16),(T.int .i64 i17),(T.lst n18 l19)]))
    f107.l0 n m n1 l2 n3 l4 n5 l6 n7 l8 n20 l21 n11 l12 i13 (IntKind.i64.wrap (i14+(1:Int)))))) (
    some (n1,l2,n3,l4,n5,l6,n7,l8,n9,l10,n11,l12))
termination_by structural x=>x
def f149.l0 (n:Nat):Nat→Nat→List T→Nat→List T→Int→Int→Option (Nat × List T)
 | 0,_,_,_,_,_,_=>none
 | m+1,n1,l2,n3,l4,i5,i6 =>
   br (decide (i6<i5)) (
    gd ((decide ((0≤i6)∧(i6<(n1:Int))))&&(okAt [(CK.int .i64),(CK.int .i64),CK.lst] l2 (((Int.toNat i6) * 3)+0))) (
    let i7:=(iAt l2 (((Int.toNat i6) * 3)+0))
    let i8:=(iAt l2 ((((Int.toNat i6) * 3)+0)+1))
    let n9:=(nAt l2 (((((Int.toNat i6) * 3)+0)+1)+1))
    let l10:=(lAt l2 (((((Int.toNat i6) * 3)+0)+1)+1))
    bd (f119 n n9 l10) fun r11 =>
    let n12:=r11.1
    let l13:=r11.2
    gd (Nat.ble (n3+1) 2147483648) (
    let n14:=(n3+1)
    let l15:=(l4++(setN (reps 1 [(T.int .i64 (0:Int)),(T.int .i64 (0:Int)),(T.lst 0 [])]) 0 [(T.int .i64 i7),(T.int .i64 i8),(T.lst n12 l13)]))
    f149.l0 n m n1 l2 n14 l15 i5 (IntKind.i64.wrap (i6+(1:Int)))))) (
    some (n3,l4))
def f149:Nat→Nat→List T→Option (Nat × List T)
 | 0,_,_=>none
 | n+1,n1,l2 =>
   bd (f149.l0 n n n1 l2 0 (reps 0 [(T.int .i64 (0:Int)),(T.int .i64 (0:Int)),(T.lst 0 [])]) (n1:Int) (0:Int)) fun r3 =>
   let n4:=r3.1
   let l5:=r3.2
   some (n4,l5)
def sg_llii:Sig (Nat × List T × Nat × List T × Int × Int) where
 pk:=fun v=>[.lst v.1 v.2.1,.lst v.2.2.1 v.2.2.2.1,.int v.2.2.2.2.1,.int v.2.2.2.2.2]
 up:=fun ls=>match ls with
  | [.lst a0 a1,.lst a2 a3,.int a4,.int a5]=>some (a0,a1,a2,a3,a4,a5)
  | _=>none
 ok:=by intro _ _ h;split at h <;>cases h;rfl
def f149.l0.P:AS:=⟨[(0,qS29),(3,qS30),(8,qS34),(9,qS34)],0⟩
def f149.l0.A:Alt (Nat × List T):=.one (.exit 0) ⟨[(3,qS30)],0⟩ sg_l
def f149.l0.F (n m:Nat) (v:Nat × List T × Nat × List T × Int × Int):=f149.l0 n m v.1 v.2.1 v.2.2.1 v.2.2.2.1 v.2.2.2.2.1 v.2.2.2.2.2
def f149.l0.W (n:Nat):LpW:=.of 48 f149.l0.P sg_llii f149.l0.A (f149.l0.F n n)
def f149.P:List Arg:=[qA20]
def f149.A:RAlt (Nat × List T):=.one ⟨[qV10],[none]⟩ sg_l
def f149.F (n:Nat) (v:Nat × List T):=f149 n v.1 v.2
def f149.O (n:Nat):Orc:=orcOf (E:=E) [f119.w] [f149.l0.W n] n
theorem f149.l0.ok:∀ n,LpS 149 c149 0 n (f149.O n):=lpS f149.l0.P sg_llii f149.l0.A f149.l0.F
theorem f149.ok:FnS 149 f149.P sg_l f149.A f149.F:=fnS c149 f149.O [loopAt c149 0] (fun n=>(.cons (f149.l0.ok n) .nil))
def f149.w:FnW E:=fnW 149 f149.P sg_l f149.A f149.F f149.ok
def f107.l1 (n:Nat):Nat→Nat→List T→Nat→List T→Nat→List T→Nat→List T→Nat→List T→Nat→List T→Int→Int→Option (Nat × List T × Nat × List T × Nat × List T × Nat × List T)
 | 0,_,_,_,_,_,_,_,_,_,_,_,_,_,_=>none
 | m+1,n1,l2,n3,l4,n5,l6,n7,l8,n9,l10,n11,l12,i13,i14 =>
   br (decide (i14<i13)) (
    gd ((decide ((0≤i14)∧(i14<(n3:Int))))&&(okAt [CK.lst,(CK.int .i64),(CK.flt .f32),CK.bool,CK.bool] l4 (((Int.toNat i14) * 5)+0))) (
    let n15:=(nAt l4 (((Int.toNat i14) * 5)+0))
    let l16:=(lAt l4 (((Int.toNat i14) * 5)+0))
    let i17:=(iAt l4 ((((Int.toNat i14) * 5)+0)+1))
    let x18:=(fAt l4 (((((Int.toNat i14) * 5)+0)+1)+1))
    let b19:=(bAt l4 ((((((Int.toNat i14) * 5)+0)+1)+1)+1))
    let b20:=(bAt l4 (((((((Int.toNat i14) * 5)+0)+1)+1)+1)+1))
    bd (f149 n n15 l16) fun r21 =>
    let n22:=r21.1
    let l23:=r21.2
    gd (Nat.ble (n11+1) 2147483648) (
    let n24:=(n11+1)
    let l25:=(l12++(setN (reps 1 [(T.lst 0 []),(T.int .i64 (0:Int)),(T.flt .f32 0),(T.bool false),(T.bool false)]) 0 [(T.lst n22 l23),(T.int .i64 i17),(T.flt .f32 x18),(T.bool b19),(T.bool b20)]))
    f107.l1 n m n1 l2 n3 l4 n5 l6 n7 l8 n9 l10 n24 l25 i13 (IntKind.i64.wrap (i14+(1:Int)))))) (
    some (n5,l6,n7,l8,n9,l10,n11,l12))
termination_by structural x=>x
def f107:Nat→Nat→List T→Nat→List T→Option (Nat × List T × Nat × List T)
 | 0,_,_,_,_=>none
 | n+1,n1,l2,n3,l4 =>
   bd (f107.l0 n n n1 l2 n3 l4 0 [] 0 [] 0 (reps 0 [(T.int .i64 (0:Int)),(T.int .i64 (0:Int)),(T.lst 0 [])]) 0 (reps 0 [(T.lst 0 []),(T.int .i64 (0:Int)),(T.flt .f32 0),(T.bool false),(T.bool false)]) (n1:Int) (0:Int)) fun r5 =>
   let n6:=r5.1
   let l7:=r5.2.1
   let n8:=r5.2.2.1
   let l9:=r5.2.2.2.1
   let n10:=r5.2.2.2.2.1
   let l11:=r5.2.2.2.2.2.1
   let n12:=r5.2.2.2.2.2.2.1
   let l13:=r5.2.2.2.2.2.2.2.1
   let n14:=r5.2.2.2.2.2.2.2.2.1
   let l15:=r5.2.2.2.2.2.2.2.2.2.1
   let n16:=r5.2.2.2.2.2.2.2.2.2.2.1
   let l17:=r5.2.2.2.2.2.2.2.2.2.2.2
   bd (f107.l1 n n n6 l7 n8 l9 n10 l11 n12 l13 n14 l15 n16 l17 (n8:Int) (0:Int)) fun r18 =>
   let n23:=r18.2.2.2.2.1
   let l24:=r18.2.2.2.2.2.1
   let n25:=r18.2.2.2.2.2.2.1
   let l26:=r18.2.2.2.2.2.2.2
   some (n23,l24,n25,l26)
def sg_llllllii:Sig (Nat × List T × Nat × List T × Nat × List T × Nat × List T × Nat × List T × Nat × List T × Int × Int) where
 pk:=fun v=>[.lst v.1 v.2.1,.lst v.2.2.1 v.2.2.2.1,.lst v.2.2.2.2.1 v.2.2.2.2.2.1,.lst v.2.2.2.2.2.2.1 v.2.2.2.2.2.2.2.1,.lst v.2.2.2.2.2.2.2.2.1 v.2.2.2.2.2.2.2.2.2.1,.lst v.2.2.2.2.2.2.2.2.2.2.1 v.2.2.2.2.2.2.2.2.2.2.2.1,.int v.2.2.2.2.2.2.2.2.2.2.2.2.1,.int v.2.2.2.2.2.2.2.2.2.2.2.2.2]
 up:=fun ls=>match ls with
  | [.lst a0 a1,.lst a2 a3,.lst a4 a5,.lst a6 a7,.lst a8 a9,.lst a10 a11,.int a12,.int a13]=>some (a0,a1,a2,a3,a4,a5,a6,a7,a8,a9,a10,a11,a12,a13)
  | _=>none
 ok:=by intro _ _ h;split at h <;>cases h;rfl
def sg_llllll:Sig (Nat × List T × Nat × List T × Nat × List T × Nat × List T × Nat × List T × Nat × List T) where
 pk:=fun v=>[.lst v.1 v.2.1,.lst v.2.2.1 v.2.2.2.1,.lst v.2.2.2.2.1 v.2.2.2.2.2.1,.lst v.2.2.2.2.2.2.1 v.2.2.2.2.2.2.2.1,.lst v.2.2.2.2.2.2.2.2.1 v.2.2.2.2.2.2.2.2.2.1,.lst v.2.2.2.2.2.2.2.2.2.2.1 v.2.2.2.2.2.2.2.2.2.2.2]
 up:=fun ls=>match ls with
  | [.lst a0 a1,.lst a2 a3,.lst a4 a5,.lst a6 a7,.lst a8 a9,.lst a10 a11]=>some (a0,a1,a2,a3,a4,a5,a6,a7,a8,a9,a10,a11)
  | _=>none
 ok:=by intro _ _ h;split at h <;>cases h;rfl
def sg_llll:Sig (Nat × List T × Nat × List T × Nat × List T × Nat × List T) where
 pk:=fun v=>[.lst v.1 v.2.1,.lst v.2.2.1 v.2.2.2.1,.lst v.2.2.2.2.1 v.2.2.2.2.2.1,.lst v.2.2.2.2.2.2.1 v.2.2.2.2.2.2.2]
 up:=fun ls=>match ls with
  | [.lst a0 a1,.lst a2 a3,.lst a4 a5,.lst a6 a7]=>some (a0,a1,a2,a3,a4,a5,a6,a7)
  | _=>none
 ok:=by intro _ _ h;split at h <;>cases h;rfl
def f107.l0.P:AS:=⟨[(0,qS26),(2,.box [.sl .own [.leaf,.leaf,.sl .own [.leaf]],.sl .own [.sl .own [.leaf,.leaf,.sl .own [.leaf]],.leaf,.leaf,.leaf,.leaf]] [.lst 0 [],.lst 0 []] [] 0),(3,.box [.sl .own [.leaf,.leaf,.sl .own [.leaf]],.sl .own [.sl .own [.leaf,.leaf,.sl .own [.leaf]],.leaf,.leaf,.leaf,.leaf]] [.lst 0 [],.lst 0 []] [] 0),(14,qS34),(15,qS34)],0⟩
def f107.l0.A:Alt (Nat × List T × Nat × List T × Nat × List T × Nat × List T × Nat × List T × Nat × List T):=.one (.exit 0) ⟨[(0,qS26),(2,.box [.sl .own [.leaf,.leaf,.sl .own [.leaf]],.sl .own [.sl .own [.leaf,.leaf,.sl .own [.leaf]],.leaf,.leaf,.leaf,.leaf]] [.lst 0 [],.lst 0 []] [] 0),(3,.box [.sl .own [.leaf,.leaf,.sl .own [.leaf]],.sl .own [.sl .own [.leaf,.leaf,.sl .own [.leaf]],.leaf,.leaf,.leaf,.leaf]] [.lst 0 [],.lst 0 []] [] 0),(56,.dead)],0⟩ sg_llllll
def f107.l0.F (n m:Nat) (v:Nat × List T × Nat × List T × Nat × List T × Nat × List T × Nat × List T × Nat × List T × Int × Int):=f107.l0 n m v.1 v.2.1 v.2.2.1 v.2.2.2.1 v.2.2.2.2.1 v.2.2.2.2.2.1 v.2.2.2.2.2.2.1 v.2.2.2.2.2.2.2.1 v.2.2.2.2.2.2.2.2.1 v.2.2.2.2.2.2.2.2.2.1 v.2.2.2.2.2.2.2.2.2.2.1 v.2.2.2.2.2.2.2.2.2.2.2.1 v.2.2.2.2.2.2.2.2.2.2.2.2.1 v.2.2.2.2.2.2.2.2.2.2.2.2.2
def f107.l0.W (n:Nat):LpW:=.of 48 f107.l0.P sg_llllllii f107.l0.A (f107.l0.F n n)
def f107.l1.P:AS:=⟨[(0,qS26),(2,.box [.sl .own [.leaf,.leaf,.sl .own [.leaf]],.sl .own [.sl .own [.leaf,.leaf,.sl .own [.leaf]],.leaf,.leaf,.leaf,.leaf]] [.lst 0 [],.lst 0 []] [] 0),(3,.box [.sl .own [.leaf,.leaf,.sl .own [.leaf]],.sl .own [.sl .own [.leaf,.leaf,.sl .own [.leaf]],.leaf,.leaf,.leaf,.leaf]] [.lst 0 [],.lst 0 []] [] 0),(35,qS34),(36,qS34)],0⟩
def f107.l1.A:Alt (Nat × List T × Nat × List T × Nat × List T × Nat × List T):=.one (.exit 2) ⟨[(2,.box [.sl .own [.leaf,.leaf,.sl .own [.leaf]],.sl .own [.sl .own [.leaf,.leaf,.sl .own [.leaf]],.leaf,.leaf,.leaf,.leaf]] [.lst 0 [],.lst 0 []] [] 0),(3,.box [.sl .own [.leaf,.leaf,.sl .own [.leaf]],.sl .own [.sl .own [.leaf,.leaf,.sl .own [.leaf]],.leaf,.leaf,.leaf,.leaf]] [.lst 0 [],.lst 0 []] [] 0)],0⟩ sg_llll
def f107.l1.F (n m:Nat) (v:Nat × List T × Nat × List T × Nat × List T × Nat × List T × Nat × List T × Nat × List T × Int × Int):=f107.l1 n m v.1 v.2.1 v.2.2.1 v.2.2.2.1 v.2.2.2.2.1 v.2.2.2.2.2.1 v.2.2.2.2.2.2.1 v.2.2.2.2.2.2.2.1 v.2.2.2.2.2.2.2.2.1 v.2.2.2.2.2.2.2.2.2.1 v.2.2.2.2.2.2.2.2.2.2.1 v.2.2.2.2.2.2.2.2.2.2.2.1 v.2.2.2.2.2.2.2.2.2.2.2.2.1 v.2.2.2.2.2.2.2.2.2.2.2.2.2
def f107.l1.W (n:Nat):LpW:=.of 128 f107.l1.P sg_llllllii f107.l1.A (f107.l1.F n n)
def f107.P:List Arg:=[qA25]
def f107.A:RAlt (Nat × List T × Nat × List T):=.one ⟨[qV2],[none]⟩ sg_ll
def f107.F (n:Nat) (v:Nat × List T × Nat × List T):=f107 n v.1 v.2.1 v.2.2.1 v.2.2.2
def f107.O (n:Nat):Orc:=orcOf (E:=E) [f108.w,f149.w] [f107.l0.W n,f107.l1.W n] n
theorem f107.l0.ok:∀ n,LpS 107 c107 0 n (f107.O n):=lpS f107.l0.P sg_llllllii f107.l0.A f107.l0.F
theorem f107.l1.ok:∀ n,LpS 107 c107 1 n (f107.O n):=lpS f107.l1.P sg_llllllii f107.l1.A f107.l1.F
theorem f107.ok:FnS 107 f107.P sg_ll f107.A f107.F:=fnS c107 f107.O [loopAt c107 0,loopAt c107 1] (fun n=>(.cons (f107.l0.ok n) (.cons (f107.l1.ok n) .nil)))
def f107.w:FnW E:=fnW 107 f107.P sg_ll f107.A f107.F f107.ok
def f121.l0 (n:Nat):Nat→Nat→List T→Nat→List T→Nat→List T→Int→Int→Option (Nat × List T)
 | 0,_,_,_,_,_,_,_,_=>none
 | m+1,n1,l2,n3,l4,n5,l6,i7,i8 =>
   br (decide (i8<i7)) (
    gd ((decide ((0≤i8)∧(i8<(n3:Int))))&&(okAt [CK.lst,(CK.int .i64),(CK.flt .f32),CK.bool,CK.bool] l4 (((Int.toNat i8) * 5)+0))) (
    bd (f145 n (nAt l4 (((Int.toNat i8) * 5)+0)) (lAt l4 (((Int.toNat i8) * 5)+0)) (iAt l4 ((((Int.toNat i8) * 5)+0)+1)) (fAt l4 (((((Int.toNat i8) * 5)+0)+1)+1)) (bAt l4 ((((((Int.toNat i8) * 5)+0)+1)+1)+1)) (bAt l4 (((((((Int.toNat i8) * 5)+0)+1)+1)+1)+1)) 0 (reps 0 [(T.flt .f32 0)])) fun r9 =>
    let n10:=r9.1
    let l11:=r9.2.1
    let i12:=r9.2.2.1
    let x13:=r9.2.2.2.1
    let b14:=r9.2.2.2.2.1
    let b15:=r9.2.2.2.2.2.1
    gd (Nat.ble (n5+1) 2147483648) (
    let n18:=(n5+1)
    let l19:=(l6++(setN (reps 1 [(T.lst 0 []),(T.int .i64 (0:Int)),(T.flt .f32 0),(T.bool false),(T.bool false)]) 0 [(T.lst n10 l11),(T.int .i64 i12),(T.flt .f32 x13),(T.bool b14),(T.bool b15)]))
    f121.l0 n m n1 l2 n3 l4 n18 l19 i7 (IntKind.i64.wrap (i8+(1:Int)))))) (
    some (n5,l6))
def f162.l0 (n:Nat):Nat→Nat→List T→Bool→Int→Int→Option (Nat × List T × Bool)
 | 0,_,_,_,_,_=>none
 | m+1,n1,l2,b3,i4,i5 =>
   br (decide (i5<i4)) (
    br b3 (
     f162.l0 n m n1 l2 true i4 (IntKind.i64.wrap (i5+(1:Int)))) (
     gd ((decide ((0≤i5)∧(i5<(n1:Int))))&&(okAt [CK.lst,(CK.int .i64),(CK.flt .f32),CK.bool,CK.bool] l2 (((Int.toNat i5) * 5)+0))) (
     let b6:=(bAt l2 (((((((Int.toNat i5) * 5)+0)+1)+1)+1)+1))
     f162.l0 n m n1 l2 b6 i4 (IntKind.i64.wrap (i5+(1:Int)))))) (
    some (n1,l2,b3))
def f162.l1 (n:Nat):Nat→Nat→List T→Bool→Nat→List T→Int→Int→Option (Nat × List T)
 | 0,_,_,_,_,_,_,_=>none
 | m+1,n1,l2,b3,n4,l5,i6,i7 =>
   br (decide (i7<i6)) (
    gd ((decide ((0≤i7)∧(i7<(n1:Int))))&&(okAt [CK.lst,(CK.int .i64),(CK.flt .f32),CK.bool,CK.bool] l2 (((Int.toNat i7) * 5)+0))) (
    br (!(bAt l2 ((((((Int.toNat i7) * 5)+0)+1)+1)+1))) (
     gd ((decide ((0≤i7)∧(i7<(n1:Int))))&&(okAt [CK.lst,(CK.int .i64),(CK.flt .f32),CK.bool,CK.bool] l2 (((Int.toNat i7) * 5)+0))) (
     br (bAt l2 (((((((Int.toNat i7) * 5)+0)+1)+1)+1)+1)) (
      gd (Nat.ble (n4+1) 2147483648) (
      let n8:=(n4+1)
      let l9:=(l5++(setN (reps 1 [(T.int .i64 (0:Int))]) 0 [(T.int .i64 i7)]))
      f162.l1 n m n1 l2 b3 n8 l9 i6 (IntKind.i64.wrap (i7+(1:Int))))) (
      br (!b3) (
       gd (Nat.ble (n4+1) 2147483648) (
       let n10:=(n4+1)
       let l11:=(l5++(setN (reps 1 [(T.int .i64 (0:Int))]) 0 [(T.int .i64 i7)]))
       f162.l1 n m n1 l2 b3 n10 l11 i6 (IntKind.i64.wrap (i7+(1:Int))))) (
       f162.l1 n m n1 l2 b3 n4 l5 i6 (IntKind.i64.wrap (i7+(1:Int))))))) (
     f162.l1 n m n1 l2 b3 n4 l5 i6 (IntKind.i64.wrap (i7+(1:Int)))))) (
    some (n4,l5))
def f162:Nat→Nat→List T→Option (Nat × List T)
 | 0,_,_=>none
 | n+1,n1,l2 =>
   bd (f162.l0 n n n1 l2 false (n1:Int) (0:Int)) fun r3 =>
   let n4:=r3.1
   let l5:=r3.2.1
   let b6:=r3.2.2
   bd (f162.l1 n n n4 l5 b6 0 (reps 0 [(T.int .i64 (0:Int))]) (n4:Int) (0:Int)) fun r7 =>
   let n8:=r7.1
   let l9:=r7.2
   some (n8,l9)
def sg_lbii:Sig (Nat × List T × Bool × Int × Int) where
 pk:=fun v=>[.lst v.1 v.2.1,.bool v.2.2.1,.int v.2.2.2.1,.int v.2.2.2.2]
 up:=fun ls=>match ls with
  | [.lst a0 a1,.bool a2,.int a3,.int a4]=>some (a0,a1,a2,a3,a4)
  | _=>none
 ok:=by intro _ _ h;split at h <;>cases h;rfl
def sg_lb:Sig (Nat × List T × Bool) where
 pk:=fun v=>[.lst v.1 v.2.1,.bool v.2.2]
 up:=fun ls=>match ls with
  | [.lst a0 a1,.bool a2]=>some (a0,a1,a2)
  | _=>none
 ok:=by intro _ _ h;split at h <;>cases h;rfl
def sg_lblii:Sig (Nat × List T × Bool × Nat × List T × Int × Int) where
 pk:=fun v=>[.lst v.1 v.2.1,.bool v.2.2.1,.lst v.2.2.2.1 v.2.2.2.2.1,.int v.2.2.2.2.2.1,.int v.2.2.2.2.2.2]
 up:=fun ls=>match ls with
  | [.lst a0 a1,.bool a2,.lst a3 a4,.int a5,.int a6]=>some (a0,a1,a2,a3,a4,a5,a6)
  | _=>none
 ok:=by intro _ _ h;split at h <;>cases h;rfl
def f162.l0.P:AS:=⟨[(0,qS28),(3,qS35),(8,qS34),(9,qS34)],0⟩
def f162.l0.A:Alt (Nat × List T × Bool):=.one (.exit 0) ⟨[(0,qS28),(3,qS35),(48,.dead)],0⟩ sg_lb
def f162.l0.F (n m:Nat) (v:Nat × List T × Bool × Int × Int):=f162.l0 n m v.1 v.2.1 v.2.2.1 v.2.2.2.1 v.2.2.2.2
def f162.l0.W (n:Nat):LpW:=.of 48 f162.l0.P sg_lbii f162.l0.A (f162.l0.F n n)
def f162.l1.P:AS:=⟨[(0,qS28),(3,qS35),(5,qS33),(23,qS34),(24,qS34)],0⟩
def f162.l1.A:Alt (Nat × List T):=.one (.exit 2) ⟨[(5,qS33)],0⟩ sg_l
def f162.l1.F (n m:Nat) (v:Nat × List T × Bool × Nat × List T × Int × Int):=f162.l1 n m v.1 v.2.1 v.2.2.1 v.2.2.2.1 v.2.2.2.2.1 v.2.2.2.2.2.1 v.2.2.2.2.2.2
def f162.l1.W (n:Nat):LpW:=.of 144 f162.l1.P sg_lblii f162.l1.A (f162.l1.F n n)
def f162.P:List Arg:=[⟨.val,⟨false,[.sl .shr [.sl .shr [.leaf],.leaf,.leaf,.leaf,.leaf]],[.lst 0 []]⟩⟩]
def f162.A:RAlt (Nat × List T):=.one ⟨[qV12],[none]⟩ sg_l
def f162.F (n:Nat) (v:Nat × List T):=f162 n v.1 v.2
def f162.O (n:Nat):Orc:=orcOf (E:=E) [] [f162.l0.W n,f162.l1.W n] n
theorem f162.l0.ok:∀ n,LpS 162 c162 0 n (f162.O n):=lpS f162.l0.P sg_lbii f162.l0.A f162.l0.F
theorem f162.l1.ok:∀ n,LpS 162 c162 1 n (f162.O n):=lpS f162.l1.P sg_lblii f162.l1.A f162.l1.F
theorem f162.ok:FnS 162 f162.P sg_l f162.A f162.F:=fnS c162 f162.O [loopAt c162 0,loopAt c162 1] (fun n=>(.cons (f162.l0.ok n) (.cons (f162.l1.ok n) .nil)))
def f162.w:FnW E:=fnW 162 f162.P sg_l f162.A f162.F f162.ok
def f121:Nat→Nat→List T→Nat→List T→Option (Nat × List T)
 | 0,_,_,_,_=>none
 | n+1,n1,l2,n3,l4 =>
   bd (f121.l0 n n n1 l2 n3 l4 0 (reps 0 [(T.lst 0 []),(T.int .i64 (0:Int)),(T.flt .f32 0),(T.bool false),(T.bool false)]) (n3:Int) (0:Int)) fun r5 =>
   let n6:=r5.1
   let l7:=r5.2
   bd (f162 n n6 l7) fun r8 =>
   let n9:=r8.1
   let l10:=r8.2
   some (n9,l10)
def sg_lllii:Sig (Nat × List T × Nat × List T × Nat × List T × Int × Int) where
 pk:=fun v=>[.lst v.1 v.2.1,.lst v.2.2.1 v.2.2.2.1,.lst v.2.2.2.2.1 v.2.2.2.2.2.1,.int v.2.2.2.2.2.2.1,.int v.2.2.2.2.2.2.2]
 up:=fun ls=>match ls with
  | [.lst a0 a1,.lst a2 a3,.lst a4 a5,.int a6,.int a7]=>some (a0,a1,a2,a3,a4,a5,a6,a7)
  | _=>none
 ok:=by intro _ _ h;split at h <;>cases h;rfl
def f121.l0.P:AS:=⟨[(0,qS26),(3,.val false [.sl .own [.sl .own [.leaf],.leaf,.leaf,.leaf,.leaf]] [.lst 0 []] [] 0),(10,qS34),(11,qS34)],0⟩
def f121.l0.A:Alt (Nat × List T):=.one (.exit 0) ⟨[(3,.val false [.sl .own [.sl .own [.leaf],.leaf,.leaf,.leaf,.leaf]] [.lst 0 []] [] 0)],0⟩ sg_l
def f121.l0.F (n m:Nat) (v:Nat × List T × Nat × List T × Nat × List T × Int × Int):=f121.l0 n m v.1 v.2.1 v.2.2.1 v.2.2.2.1 v.2.2.2.2.1 v.2.2.2.2.2.1 v.2.2.2.2.2.2.1 v.2.2.2.2.2.2.2
def f121.l0.W (n:Nat):LpW:=.of 48 f121.l0.P sg_lllii f121.l0.A (f121.l0.F n n)
def f121.P:List Arg:=[qA25]
def f121.A:RAlt (Nat × List T):=.one ⟨[qV12],[none]⟩ sg_l
def f121.F (n:Nat) (v:Nat × List T × Nat × List T):=f121 n v.1 v.2.1 v.2.2.1 v.2.2.2
def f121.O (n:Nat):Orc:=orcOf (E:=E) [f145.w,f162.w] [f121.l0.W n] n
theorem f121.l0.ok:∀ n,LpS 121 c121 0 n (f121.O n):=lpS f121.l0.P sg_lllii f121.l0.A f121.l0.F
theorem f121.ok:FnS 121 f121.P sg_ll f121.A f121.F:=fnS c121 f121.O [loopAt c121 0] (fun n=>(.cons (f121.l0.ok n) .nil))
def f121.w:FnW E:=fnW 121 f121.P sg_ll f121.A f121.F f121.ok
def f122.l0 (n:Nat):Nat→Nat→List T→Int→Int→Option ((Bool) ⊕ (Unit))
 | 0,_,_,_,_=>none
 | m+1,n1,l2,i3,i4 =>
   br (decide (i4<(n1:Int))) (
    gd ((decide ((0≤i4)∧(i4<(n1:Int))))&&(okAt [(CK.int .i64)] l2 (Int.toNat i4))) (
    br ((iAt l2 (Int.toNat i4))==i3) (
     some (Sum.inl true)) (
     f122.l0 n m n1 l2 i3 (IntKind.i64.wrap (i4+(1:Int)))))) (
    some (Sum.inr ()))
def f122:Nat→Nat→List T→Int→Option (Bool)
 | 0,_,_,_=>none
 | n+1,n1,l2,i3 =>
   bd (f122.l0 n n n1 l2 i3 (0:Int)) fun r4 =>
   sm r4 (fun u5 =>
    let b6:=u5
    some b6) (fun u7 =>
    some false)
def f122.l0.P:AS:=⟨[(0,qS32),(1,qS34),(5,qS34)],0⟩
def f122.l0.A:Alt ((Bool) ⊕ (Unit)):=.or (.one .ret ⟨[(4,qS35)],0⟩ sg_b) (.one (.exit 0) ⟨[(4,.dead)],0⟩ sg)
def f122.l0.F (n m:Nat) (v:Nat × List T × Int × Int):=f122.l0 n m v.1 v.2.1 v.2.2.1 v.2.2.2
def f122.l0.W (n:Nat):LpW:=.of 32 f122.l0.P sg_lii f122.l0.A (f122.l0.F n n)
def f122.P:List Arg:=[qA16,qA17]
def f122.A:RAlt (Bool):=.one ⟨[qV14],[none,none]⟩ sg_b
def f122.F (n:Nat) (v:Nat × List T × Int):=f122 n v.1 v.2.1 v.2.2
def f122.O (n:Nat):Orc:=orcOf (E:=E) [] [f122.l0.W n] n
theorem f122.l0.ok:∀ n,LpS 122 c122 0 n (f122.O n):=lpS f122.l0.P sg_lii f122.l0.A f122.l0.F
theorem f122.ok:FnS 122 f122.P sg_li f122.A f122.F:=fnS c122 f122.O [loopAt c122 0] (fun n=>(.cons (f122.l0.ok n) .nil))
def f122.w:FnW E:=fnW 122 f122.P sg_li f122.A f122.F f122.ok
def f62.l1 (n:Nat):Nat→Nat→List T→Nat→List T→Nat→List T→Nat→List T→Nat→List T→Nat→List T→Nat→List T→Int→Nat→List T→Int→Int→Int→Int→Option (Nat × List T × Nat × List T × Nat × List T × Nat × List T × Nat × List T × Nat × List T × Nat × List T × Int × Int × Int)
 | 0,_,_,_,_,_,_,_,_,_,_,_,_,_,_,_,_,_,_,_,_,_=>none
 | m+1,n1,l2,n3,l4,n5,l6,n7,l8,n9,l10,n11,l12,n13,l14,i15,n16,l17,i18,i19,i20,i21 =>
   br (decide (i21<i20)) (
    gd (decide ((0≤i21)∧(i21<(n16:Int)))) (
    gd (okAt [(CK.int .i64)] l17 (((Int.toNat i21) * 3)+0)) (
    br ((iAt l17 (((Int.toNat i21) * 3)+0)) != (0:Int)) (
     gd (decide ((0≤i15)∧(i15<(n11:Int)))) (
     gd (okAt [CK.lst] l12 (((Int.toNat i15) * 5)+0)) (
     gd (decide ((0≤i21)∧(i21<(n16:Int)))) (
     gd (okAt [(CK.int .i64),(CK.int .i64),CK.lst] l17 (((Int.toNat i21) * 3)+0)) (
     gd ((okAt [(CK.int .i64),(CK.int .i64),CK.lst] l17 (((Int.toNat i21) * 3)+0))&&true) (
     gd ((okAt [CK.lst] l12 (((Int.toNat i15) * 5)+0))&&true) (
     gd (Nat.ble ((nAt l12 (((Int.toNat i15) * 5)+0))+1) 2147483648) (
     gd (decide ((0≤i15)∧(i15<(n11:Int)))) (
     gd (Nat.ble ((((Int.toNat i15) * 5)+0)+1) (List.length (setN l12 (((Int.toNat i15) * 5)+0) [T.nil]))) (
     let l22:=(setN (setN l12 (((Int.toNat i15) * 5)+0) [T.nil]) (((Int.toNat i15) * 5)+0) [(T.lst ((nAt l12 (((Int.toNat i15) * 5)+0))+1) ((lAt l12 (((Int.toNat i15) * 5)+0))++(setN (reps 1 [(T.int .i64 (0:Int)),(T.int .i64 (0:Int)),(T.lst 0 [])]) 0 [(T.int .i64 (iAt l17 (((Int.toNat i21) * 3)+0))),(T.int .i64 (iAt l17 ((((Int.toNat i21) * 3)+0)+1))),(T.lst (nAt l17 (((((Int.toNat i21) * 3)+0)+1)+1)) (lAt l17 (((((Int.toNat i21) * 3)+0)+1)+1)))])))])
     let l23:=(setN l17 (((Int.toNat i21) * 3)+0) [(T.int .i64 (iAt l17 (((Int.toNat i21) * 3)+0))),(T.int .i64 (iAt l17 ((((Int.toNat i21) * 3)+0)+1))),T.nil])
     f62.l1 n m n1 l2 n3 l4 n5 l6 n7 l8 n9 l10 n11 l22 n13 l14 i15 n16 l23 i18 i19 i20 (IntKind.i64.wrap (i21+(1:Int))))))))))))) (
     gd (decide ((0≤i21)∧(i21<(n16:Int)))) (
     gd (okAt [CK.lst] l17 (((Int.toNat i21) * 3)+2)) (
     gd (okAt [CK.lst] l17 (((Int.toNat i21) * 3)+2)) (
     gd (decide ((0≤(0:Int))∧((0:Int)<(((nAt l17 (((Int.toNat i21) * 3)+2)):Nat):Int)))) (
     gd ((okAt [CK.lst] l17 (((Int.toNat i21) * 3)+2))&&(okAt [(CK.flt .f32)] (lAt l17 (((Int.toNat i21) * 3)+2)) 0)) (
     br (fne .f32 (fAt (lAt l17 (((Int.toNat i21) * 3)+2)) 0) 1065353216) (
      gd (decide ((0≤i15)∧(i15<(n11:Int)))) (
      gd (okAt [CK.lst] l12 (((Int.toNat i15) * 5)+0)) (
      gd (decide ((0≤i21)∧(i21<(n16:Int)))) (
      gd (okAt [(CK.int .i64),(CK.int .i64),CK.lst] l17 (((Int.toNat i21) * 3)+0)) (
      gd ((okAt [(CK.int .i64),(CK.int .i64),CK.lst] l17 (((Int.toNat i21) * 3)+0))&&true) (
      gd ((okAt [CK.lst] l12 (((Int.toNat i15) * 5)+0))&&true) (
      gd (Nat.ble ((nAt l12 (((Int.toNat i15) * 5)+0))+1) 2147483648) (
      gd (decide ((0≤i15)∧(i15<(n11:Int)))) (
      gd (Nat.ble ((((Int.toNat i15) * 5)+0)+1) (List.length (setN l12 (((Int.toNat i15) * 5)+0) [T.nil]))) (
      let l24:=(setN (setN l12 (((Int.toNat i15) * 5)+0) [T.nil]) (((Int.toNat i15) * 5)+0) [(T.lst ((nAt l12 (((Int.toNat i15) * 5)+0))+1) ((lAt l12 (((Int.toNat i15) * 5)+0))++(setN (reps 1 [(T.int .i64 (0:Int)),(T.int .i64 (0:Int)),(T.lst 0 [])]) 0 [(T.int .i64 (iAt l17 (((Int.toNat i21) * 3)+0))),(T.int .i64 (iAt l17 ((((Int.toNat i21) * 3)+0)+1))),(T.lst (nAt l17 (((((Int.toNat i21) * 3)+0)+1)+1)) (lAt l17 (((((Int.toNat i21) * 3)+0)+1)+1)))])))])
      let l25:=(setN l17 (((Int.toNat i21) * 3)+0) [(T.int .i64 (iAt l17 (((Int.toNat i21) * 3)+0))),(T.int .i64 (iAt l17 ((((Int.toNat i21) * 3)+0)+1))),T.nil])
      f62.l1 n m n1 l2 n3 l4 n5 l6 n7 l8 n9 l10 n11 l24 n13 l14 i15 n16 l25 i18 i19 i20 (IntKind.i64.wrap (i21+(1:Int))))))))))))) (
      f62.l1 n m n1 l2 n3 l4 n5 l6 n7 l8 n9 l10 n11 l12 n13 l14 i15 n16 l17 i18 i19 i20 (IntKind.i64.wrap (i21+(1:Int))))))))))))) (
    some (n1,l2,n3,l4,n5,l6,n7,l8,n9,l10,n11,l12,n13,l14,i15,i18,i19))
termination_by structural x=>x
def f124:Nat→Int→Int→Nat→List T→Option (Int)
 | 0,_,_,_,_=>none
 | n+1,i1,i2,n3,l4 =>
   some (IntKind.i64.wrap (i2+(n3:Int)))
def f124.P:List Arg:=[qA24]
def f124.A:RAlt (Int):=.one ⟨[qV13],[none]⟩ sg_i
def f124.F (n:Nat) (v:Int × Int × Nat × List T):=f124 n v.1 v.2.1 v.2.2.1 v.2.2.2
def f124.O (n:Nat):Orc:=orcOf (E:=E) [] [] n
theorem f124.ok:FnS 124 f124.P sg_iil f124.A f124.F:=fnS c124 f124.O
def f124.w:FnW E:=fnW 124 f124.P sg_iil f124.A f124.F f124.ok
def f123:Nat→Int→Int→Option (Int)
 | 0,_,_=>none
 | n+1,i1,i2 =>
   br (decide (i1>i2)) (
    some i1) (
    some i2)
def f123.P:List Arg:=[qA17,qA17]
def f123.A:RAlt (Int):=.one ⟨[qV13],[none,none]⟩ sg_i
def f123.F (n:Nat) (v:Int × Int):=f123 n v.1 v.2
def f123.O (n:Nat):Orc:=orcOf (E:=E) [] [] n
theorem f123.ok:FnS 123 f123.P sg_ii f123.A f123.F:=fnS c123 f123.O
def f123.w:FnW E:=fnW 123 f123.P sg_ii f123.A f123.F f123.ok
def f62.l2 (n:Nat):Nat→Nat→List T→Nat→List T→Nat→List T→Nat→List T→Nat→List T→Nat→List T→Nat→List T→Int→Int→Int→Int→Int→Int→Int→Option (Nat × List T × Nat × List T × Nat × List T × Nat × List T × Nat × List T × Nat × List T × Nat × List T × Int × Int × Int × Int × Int)
 | 0,_,_,_,_,_,_,_,_,_,_,_,_,_,_,_,_,_,_,_,_,_=>none
 | m+1,n1,l2,n3,l4,n5,l6,n7,l8,n9,l10,n11,l12,n13,l14,i15,i16,i17,i18,i19,i20,i21 =>
   br (decide (i21<i20)) (
    gd ((decide ((0≤i21)∧(i21<(n1:Int))))&&(okAt [(CK.int .i64),(CK.int .i64),CK.lst] l2 (((Int.toNat i21) * 3)+0))) (
    br ((iAt l2 (((Int.toNat i21) * 3)+0)) != i15) (
     f62.l2 n m n1 l2 n3 l4 n5 l6 n7 l8 n9 l10 n11 l12 n13 l14 i15 i16 i17 i18 i19 i20 (IntKind.i64.wrap (i21+(1:Int)))) (
     br (decide (i16<(0:Int))) (
      gd ((decide ((0≤i21)∧(i21<(n1:Int))))&&(okAt [(CK.int .i64),(CK.int .i64),CK.lst] l2 (((Int.toNat i21) * 3)+0))) (
      let i22:=(iAt l2 ((((Int.toNat i21) * 3)+0)+1))
      gd ((decide ((0≤i21)∧(i21<(n1:Int))))&&(okAt [(CK.int .i64),(CK.int .i64),CK.lst] l2 (((Int.toNat i21) * 3)+0))) (
      bd (f124 n (iAt l2 (((Int.toNat i21) * 3)+0)) (iAt l2 ((((Int.toNat i21) * 3)+0)+1)) (nAt l2 (((((Int.toNat i21) * 3)+0)+1)+1)) (lAt l2 (((((Int.toNat i21) * 3)+0)+1)+1))) fun r23 =>
      let i24:=r23
      bd (f123 n i17 i24) fun r25 =>
      let i26:=r25
      f62.l2 n m n1 l2 n3 l4 n5 l6 n7 l8 n9 l10 n11 l12 n13 l14 i15 i22 i26 i18 i19 i20 (IntKind.i64.wrap (i21+(1:Int)))))) (
      gd ((decide ((0≤i21)∧(i21<(n1:Int))))&&(okAt [(CK.int .i64),(CK.int .i64),CK.lst] l2 (((Int.toNat i21) * 3)+0))) (
      br (decide ((iAt l2 ((((Int.toNat i21) * 3)+0)+1))<i16)) (
       gd ((decide ((0≤i21)∧(i21<(n1:Int))))&&(okAt [(CK.int .i64),(CK.int .i64),CK.lst] l2 (((Int.toNat i21) * 3)+0))) (
       let i27:=(iAt l2 ((((Int.toNat i21) * 3)+0)+1))
       gd ((decide ((0≤i21)∧(i21<(n1:Int))))&&(okAt [(CK.int .i64),(CK.int .i64),CK.lst] l2 (((Int.toNat i21) * 3)+0))) (
       bd (f124 n (iAt l2 (((Int.toNat i21) * 3)+0)) (iAt l2 ((((Int.toNat i21) * 3)+0)+1)) (nAt l2 (((((Int.toNat i21) * 3)+0)+1)+1)) (lAt l2 (((((Int.toNat i21) * 3)+0)+1)+1))) fun r28 =>
       let i29:=r28
       bd (f123 n i17 i29) fun r30 =>
       let i31:=r30
       f62.l2 n m n1 l2 n3 l4 n5 l6 n7 l8 n9 l10 n11 l12 n13 l14 i15 i27 i31 i18 i19 i20 (IntKind.i64.wrap (i21+(1:Int)))))) (
       gd ((decide ((0≤i21)∧(i21<(n1:Int))))&&(okAt [(CK.int .i64),(CK.int .i64),CK.lst] l2 (((Int.toNat i21) * 3)+0))) (
       bd (f124 n (iAt l2 (((Int.toNat i21) * 3)+0)) (iAt l2 ((((Int.toNat i21) * 3)+0)+1)) (nAt l2 (((((Int.toNat i21) * 3)+0)+1)+1)) (lAt l2 (((((Int.toNat i21) * 3)+0)+1)+1))) fun r32 =>
       let i33:=r32
       bd (f123 n i17 i33) fun r34 =>
       let i35:=r34
       f62.l2 n m n1 l2 n3 l4 n5 l6 n7 l8 n9 l10 n11 l12 n13 l14 i15 i16 i35 i18 i19 i20 (IntKind.i64.wrap (i21+(1:Int)))))))))) (
    some (n1,l2,n3,l4,n5,l6,n7,l8,n9,l10,n11,l12,n13,l14,i15,i16,i17,i18,i19))
termination_by structural x=>x
def f125:Nat→Int→Int→Option (Int)
 | 0,_,_=>none
 | n+1,i1,i2 =>
   br (decide (i1<i2)) (
    some i1) (
    some i2)
def f125.P:List Arg:=[qA17,qA17]
def f125.A:RAlt (Int):=.one ⟨[qV13],[none,none]⟩ sg_i
def f125.F (n:Nat) (v:Int × Int):=f125 n v.1 v.2
def f125.O (n:Nat):Orc:=orcOf (E:=E) [] [] n
theorem f125.ok:FnS 125 f125.P sg_ii f125.A f125.F:=fnS c125 f125.O
def f125.w:FnW E:=fnW 125 f125.P sg_ii f125.A f125.F f125.ok
def f126.l1 (n:Nat):Nat→Nat→List T→Nat→List T→Int→Int→Nat→List T→Int→Int→Nat→List T→Int→Int→Int→Int→Option (Nat × List T × Nat × List T × Int × Int × Nat × List T × Int × Int)
 | 0,_,_,_,_,_,_,_,_,_,_,_,_,_,_,_,_=>none
 | m+1,n1,l2,n3,l4,i5,i6,n7,l8,i9,i10,n11,l12,i13,i14,i15,i16 =>
   br (decide (i16<i15)) (
    let i17:=(IntKind.i64.wrap (i10+i16))
    br (decide (i17<i6)) (
     gd (decide ((0≤i17)∧(i17<(n7:Int)))) (
     gd (okAt [(CK.flt .f32)] l8 (Int.toNat i17)) (
     gd ((decide ((0≤i16)∧(i16<(n11:Int))))&&(okAt [(CK.flt .f32)] l12 (Int.toNat i16))) (
     gd (decide ((0≤i17)∧(i17<(n7:Int)))) (
     gd (Nat.ble ((Int.toNat i17)+1) (List.length l8)) (
     let l18:=(setN l8 (Int.toNat i17) [(T.flt .f32 (fadd .f32 (fAt l8 (Int.toNat i17)) (fAt l12 (Int.toNat i16))))])
     f126.l1 n m n1 l2 n3 l4 i5 i6 n7 l18 i9 i10 n11 l12 i13 i14 i15 (IntKind.i64.wrap (i16+(1:Int))))))))) (
     f126.l1 n m n1 l2 n3 l4 i5 i6 n7 l8 i9 i10 n11 l12 i13 i14 i15 (IntKind.i64.wrap (i16+(1:Int))))) (
    some (n1,l2,n3,l4,i5,i6,n7,l8,i13,i14))
termination_by structural x=>x
def f126.l0 (n:Nat):Nat→Nat→List T→Nat→List T→Int→Int→Nat→List T→Int→Int→Option (Nat × List T)
 | 0,_,_,_,_,_,_,_,_,_,_=>none
 | m+1,n1,l2,n3,l4,i5,i6,n7,l8,i9,i10 =>
   br (decide (i10<i9)) (
    gd ((decide ((0≤i10)∧(i10<(n1:Int))))&&(okAt [(CK.int .i64),(CK.int .i64),CK.lst] l2 (((Int.toNat i10) * 3)+0))) (
    let i11:=(iAt l2 (((Int.toNat i10) * 3)+0))
    let i12:=(iAt l2 ((((Int.toNat i10) * 3)+0)+1))
    let n13:=(nAt l2 (((((Int.toNat i10) * 3)+0)+1)+1))
    let l14:=(lAt l2 (((((Int.toNat i10) * 3)+0)+1)+1))
    br (i11 != i5) (
     f126.l0 n m n1 l2 n3 l4 i5 i6 n7 l8 i9 (IntKind.i64.wrap (i10+(1:Int)))) (
     bd (f126.l1 n n n1 l2 n3 l4 i5 i6 n7 l8 i11 i12 n13 l14 i9 i10 (n13:Int) (0:Int)) fun r15 =>
     let n16:=r15.1
     let l17:=r15.2.1
     let n18:=r15.2.2.1
     let l19:=r15.2.2.2.1
     let i20:=r15.2.2.2.2.1
     let i21:=r15.2.2.2.2.2.1
     let n22:=r15.2.2.2.2.2.2.1
     let l23:=r15.2.2.2.2.2.2.2.1
     let i24:=r15.2.2.2.2.2.2.2.2.1
     let i25:=r15.2.2.2.2.2.2.2.2.2
     f126.l0 n m n16 l17 n18 l19 i20 i21 n22 l23 i24 (IntKind.i64.wrap (i25+(1:Int)))))) (
    some (n7,l8))
def f126:Nat→Nat→List T→Nat→List T→Int→Int→Option (Nat × List T)
 | 0,_,_,_,_,_,_=>none
 | n+1,n1,l2,n3,l4,i5,i6 =>
   gd (decide ((0≤i6)∧(i6≤(2147483648:Int)))) (
   let n7:=(Int.toNat i6)
   let l8:=(reps (Int.toNat i6) [(T.flt .f32 0)])
   bd (f126.l0 n n n1 l2 n3 l4 i5 i6 n7 l8 (n1:Int) (0:Int)) fun r9 =>
   let n10:=r9.1
   let l11:=r9.2
   some (n10,l11))
def sg_lliiliiliiii:Sig (Nat × List T × Nat × List T × Int × Int × Nat × List T × Int × Int × Nat × List T × Int × Int × Int × Int) where
 pk:=fun v=>[.lst v.1 v.2.1,.lst v.2.2.1 v.2.2.2.1,.int v.2.2.2.2.1,.int v.2.2.2.2.2.1,.lst v.2.2.2.2.2.2.1 v.2.2.2.2.2.2.2.1,.int v.2.2.2.2.2.2.2.2.1,.int v.2.2.2.2.2.2.2.2.2.1,.lst v.2.2.2.2.2.2.2.2.2.2.1 v.2.2.2.2.2.2.2.2.2.2.2.1,.int v.2.2.2.2.2.2.2.2.2.2.2.2.1,.int v.2.2.2.2.2.2.2.2.2.2.2.2.2.1,.int v.2.2.2.2.2.2.2.2.2.2.2.2.2.2.1,.int v.2.2.2.2.2.2.2.2.2.2.2.2.2.2.2]
 up:=fun ls=>match ls with
  | [.lst a0 a1,.lst a2 a3,.int a4,.int a5,.lst a6 a7,.int a8,.int a9,.lst a10 a11,.int a12,.int a13,.int a14,.int a15]=>some (a0,a1,a2,a3,a4,a5,a6,a7,a8,a9,a10,a11,a12,a13,a14,a15)
  | _=>none
 ok:=by intro _ _ h;split at h <;>cases h;rfl
def sg_lliilii:Sig (Nat × List T × Nat × List T × Int × Int × Nat × List T × Int × Int) where
 pk:=fun v=>[.lst v.1 v.2.1,.lst v.2.2.1 v.2.2.2.1,.int v.2.2.2.2.1,.int v.2.2.2.2.2.1,.lst v.2.2.2.2.2.2.1 v.2.2.2.2.2.2.2.1,.int v.2.2.2.2.2.2.2.2.1,.int v.2.2.2.2.2.2.2.2.2]
 up:=fun ls=>match ls with
  | [.lst a0 a1,.lst a2 a3,.int a4,.int a5,.lst a6 a7,.int a8,.int a9]=>some (a0,a1,a2,a3,a4,a5,a6,a7,a8,a9)
  | _=>none
 ok:=by intro _ _ h;split at h <;>cases h;rfl
def f126.l1.P:AS:=⟨[(0,qS26),(1,qS34),(2,qS34),(7,qS33),(9,.box [.leaf,.leaf,.sl .shr [.leaf]] [.int .i64 0,.int .i64 0,.lst 0 []] [] 0),(18,qS34),(19,qS34),(35,qS34),(36,qS34)],0⟩
def f126.l1.A:Alt (Nat × List T × Nat × List T × Int × Int × Nat × List T × Int × Int):=.one (.exit 2) ⟨[(0,qS26),(1,qS34),(2,qS34),(7,qS33),(18,qS34),(19,qS34),(59,.dead),(60,.dead)],0⟩ sg_lliilii
def f126.l1.F (n m:Nat) (v:Nat × List T × Nat × List T × Int × Int × Nat × List T × Int × Int × Nat × List T × Int × Int × Int × Int):=f126.l1 n m v.1 v.2.1 v.2.2.1 v.2.2.2.1 v.2.2.2.2.1 v.2.2.2.2.2.1 v.2.2.2.2.2.2.1 v.2.2.2.2.2.2.2.1 v.2.2.2.2.2.2.2.2.1 v.2.2.2.2.2.2.2.2.2.1 v.2.2.2.2.2.2.2.2.2.2.1 v.2.2.2.2.2.2.2.2.2.2.2.1 v.2.2.2.2.2.2.2.2.2.2.2.2.1 v.2.2.2.2.2.2.2.2.2.2.2.2.2.1 v.2.2.2.2.2.2.2.2.2.2.2.2.2.2.1 v.2.2.2.2.2.2.2.2.2.2.2.2.2.2.2
def f126.l1.W (n:Nat):LpW:=.of 128 f126.l1.P sg_lliiliiliiii f126.l1.A (f126.l1.F n n)
def f126.l0.P:AS:=⟨[(0,qS26),(1,qS34),(2,qS34),(7,qS33),(18,qS34),(19,qS34)],0⟩
def f126.l0.A:Alt (Nat × List T):=.one (.exit 0) ⟨[(7,qS33)],0⟩ sg_l
def f126.l0.F (n m:Nat) (v:Nat × List T × Nat × List T × Int × Int × Nat × List T × Int × Int):=f126.l0 n m v.1 v.2.1 v.2.2.1 v.2.2.2.1 v.2.2.2.2.1 v.2.2.2.2.2.1 v.2.2.2.2.2.2.1 v.2.2.2.2.2.2.2.1 v.2.2.2.2.2.2.2.2.1 v.2.2.2.2.2.2.2.2.2
def f126.l0.W (n:Nat):LpW:=.of 48 f126.l0.P sg_lliilii f126.l0.A (f126.l0.F n n)
def f126.P:List Arg:=[qA25,qA17,qA17]
def f126.A:RAlt (Nat × List T):=.one ⟨[qV12],[none,none,none]⟩ sg_l
def f126.F (n:Nat) (v:Nat × List T × Nat × List T × Int × Int):=f126 n v.1 v.2.1 v.2.2.1 v.2.2.2.1 v.2.2.2.2.1 v.2.2.2.2.2
def f126.O (n:Nat):Orc:=orcOf (E:=E) [] [f126.l1.W n,f126.l0.W n] n
theorem f126.l1.ok:∀ n,LpS 126 c126 1 n (f126.O n):=lpS f126.l1.P sg_lliiliiliiii f126.l1.A f126.l1.F
theorem f126.l0.ok:∀ n,LpS 126 c126 0 n (f126.O n):=lpS f126.l0.P sg_lliilii f126.l0.A f126.l0.F [loopAt c126 1] (fun n=>(.cons (f126.l1.ok n) .nil))
theorem f126.ok:FnS 126 f126.P sg_llii f126.A f126.F:=fnS c126 f126.O [loopAt c126 0] (fun n=>(.cons (f126.l0.ok n) .nil))
def f126.w:FnW E:=fnW 126 f126.P sg_llii f126.A f126.F f126.ok
def f62.l0 (n:Nat):Nat→Nat→List T→Nat→List T→Nat→List T→Nat→List T→Nat→List T→Nat→List T→Nat→List T→Int→Int→Option (Nat × List T × Nat × List T × Nat × List T × Nat × List T)
 | 0,_,_,_,_,_,_,_,_,_,_,_,_,_,_,_,_=>none
 | m+1,n1,l2,n3,l4,n5,l6,n7,l8,n9,l10,n11,l12,n13,l14,i15,i16 =>
   br (decide (i16<i15)) (
    gd (decide ((0≤i16)∧(i16<(n11:Int)))) (
    gd (okAt [CK.lst] l12 (((Int.toNat i16) * 5)+0)) (
    gd ((okAt [CK.lst] l12 (((Int.toNat i16) * 5)+0))&&true) (
    let l17:=(setN l12 (((Int.toNat i16) * 5)+0) [T.nil])
    let n18:=(nAt l12 (((Int.toNat i16) * 5)+0))
    let l19:=(lAt l12 (((Int.toNat i16) * 5)+0))
    gd (decide ((0≤i16)∧(i16<(n11:Int)))) (
    gd (Nat.ble ((((Int.toNat i16) * 5)+0)+1) (List.length l17)) (
    let l20:=(setN l17 (((Int.toNat i16) * 5)+0) [(T.lst 0 (reps 0 [(T.int .i64 (0:Int)),(T.int .i64 (0:Int)),(T.lst 0 [])]))])
    bd (f122 n n13 l14 i16) fun r21 =>
    let b22:=r21
    br (!b22) (
     f62.l0 n m n1 l2 n3 l4 n5 l6 n7 l8 n9 l10 n11 l20 n13 l14 i15 (IntKind.i64.wrap (i16+(1:Int)))) (
     bd (f62.l1 n n n1 l2 n3 l4 n5 l6 n7 l8 n9 l10 n11 l20 n13 l14 i16 n18 l19 i15 i16 (n18:Int) (0:Int)) fun r23 =>
     let n24:=r23.1
     let l25:=r23.2.1
     let n26:=r23.2.2.1
     let l27:=r23.2.2.2.1
     let n28:=r23.2.2.2.2.1
     let l29:=r23.2.2.2.2.2.1
     let n30:=r23.2.2.2.2.2.2.1
     let l31:=r23.2.2.2.2.2.2.2.1
     let n32:=r23.2.2.2.2.2.2.2.2.1
     let l33:=r23.2.2.2.2.2.2.2.2.2.1
     let n34:=r23.2.2.2.2.2.2.2.2.2.2.1
     let l35:=r23.2.2.2.2.2.2.2.2.2.2.2.1
     let n36:=r23.2.2.2.2.2.2.2.2.2.2.2.2.1
     let l37:=r23.2.2.2.2.2.2.2.2.2.2.2.2.2.1
     let i38:=r23.2.2.2.2.2.2.2.2.2.2.2.2.2.2.1
     let i39:=r23.2.2.2.2.2.2.2.2.2.2.2.2.2.2.2.1
     let i40:=r23.2.2.2.2.2.2.2.2.2.2.2.2.2.2.2.2
     bd (f62.l2 n n n24 l25 n26 l27 n28 l29 n30 l31 n32 l33 n34 l35 n36 l37 i38 (-1:Int) (0:Int) i39 i40 (n24:Int) (0:Int)) fun r41 =>
     let n42:=r41.1
     let l43:=r41.2.1
     let n44:=r41.2.2.1
     let l45:=r41.2.2.2.1
     let n46:=r41.2.2.2.2.1
     let l47:=r41.2.2.2.2.2.1
     let n48:=r41.2.2.2.2.2.2.1
     let l49:=r41.2.2.2.2.2.2.2.1
     let n50:=r41.2.2.2.2.2.2.2.2.1
     let l51:=r41.2.2.2.2.2.2.2.2.2.1
     let n52:=r41.2.2.2.2.2.2.2.2.2.2.1
     let l53:=r41.2.2.2.2.2.2.2.2.2.2.2.1
     let n54:=r41.2.2.2.2.2.2.2.2.2.2.2.2.1
     let l55:=r41.2.2.2.2.2.2.2.2.2.2.2.2.2.1
     let i56:=r41.2.2.2.2.2.2.2.2.2.2.2.2.2.2.1
     let i57:=r41.2.2.2.2.2.2.2.2.2.2.2.2.2.2.2.1
     let i58:=r41.2.2.2.2.2.2.2.2.2.2.2.2.2.2.2.2.1
     let i59:=r41.2.2.2.2.2.2.2.2.2.2.2.2.2.2.2.2.2.1
     let i60:=r41.2.2.2.2.2.2.2.2.2.2.2.2.2.2.2.2.2.2
     br (decide (i57≥(0:Int))) (
      bd (f125 n i58 (IntKind.i64.wrap (i57+(256:Int)))) fun r61 =>
      let i62:=r61
      bd (f126 n n42 l43 n44 l45 i56 i62) fun r63 =>
      let n64:=r63.1
      let l65:=r63.2
      gd (decide ((0≤i57)∧((i57≤(n64:Int))∧((n64:Int)≤(n64:Int))))) (
      bd (f119 n (n64 - (Int.toNat i57)) (List.take (n64 - (Int.toNat i57)) (List.drop (Int.toNat i57) l65))) fun r66 =>
      let n67:=r66.1
      let l68:=r66.2
      gd (Nat.ble (n50+1) 2147483648) (
      let n69:=(n50+1)
      let l70:=(l51++(setN (reps 1 [(T.int .i64 (0:Int)),(T.int .i64 (0:Int)),(T.lst 0 [])]) 0 (setN (setN (setN [(T.int .i64 (0:Int)),(T.int .i64 (0:Int)),(T.lst 0 [])] 0 [(T.int .i64 i56)]) 1 [(T.int .i64 i57)]) 2 [(T.lst n67 l68)])))
      f62.l0 n m n42 l43 n44 l45 n46 l47 n48 l49 n69 l70 n52 l53 n54 l55 i59 (IntKind.i64.wrap (i60+(1:Int)))))) (
      f62.l0 n m n42 l43 n44 l45 n46 l47 n48 l49 n50 l51 n52 l53 n54 l55 i59 (IntKind.i64.wrap (i60+(1:Int))))))))))) (
    some (n5,l6,n7,l8,n9,l10,n11,l12))
termination_by structural x=>x
def f62:Nat→Nat→List T→Nat→List T→Option (Nat × List T × Nat × List T × Bool)
 | 0,_,_,_,_=>none
 | n+1,n1,l2,n3,l4 =>
   bd (f105 n n1 l2 n3 l4) fun r5 =>
   let b6:=r5
   br (!b6) (
    some (0,[],0,[],false)) (
    bd (f107 n n1 l2 n3 l4) fun r7 =>
    let n10:=r7.2.2.1
    let l11:=r7.2.2.2
    bd (f121 n n1 l2 n3 l4) fun r12 =>
    let n13:=r12.1
    let l14:=r12.2
    bd (f62.l0 n n n1 l2 n3 l4 0 [] 0 [] 0 (reps 0 [(T.int .i64 (0:Int)),(T.int .i64 (0:Int)),(T.lst 0 [])]) n10 l11 n13 l14 (n10:Int) (0:Int)) fun r15 =>
    let n20:=r15.2.2.2.2.1
    let l21:=r15.2.2.2.2.2.1
    let n22:=r15.2.2.2.2.2.2.1
    let l23:=r15.2.2.2.2.2.2.2
    some (n20,l21,n22,l23,true))
def sg_llb:Sig (Nat × List T × Nat × List T × Bool) where
 pk:=fun v=>[.lst v.1 v.2.1,.lst v.2.2.1 v.2.2.2.1,.bool v.2.2.2.2]
 up:=fun ls=>match ls with
  | [.lst a0 a1,.lst a2 a3,.bool a4]=>some (a0,a1,a2,a3,a4)
  | _=>none
 ok:=by intro _ _ h;split at h <;>cases h;rfl
def sg_llllllliliiii:Sig (Nat × List T × Nat × List T × Nat × List T × Nat × List T × Nat × List T × Nat × List T × Nat × List T × Int × Nat × List T × Int × Int × Int × Int) where
 pk:=fun v=>[.lst v.1 v.2.1,.lst v.2.2.1 v.2.2.2.1,.lst v.2.2.2.2.1 v.2.2.2.2.2.1,.lst v.2.2.2.2.2.2.1 v.2.2.2.2.2.2.2.1,.lst v.2.2.2.2.2.2.2.2.1 v.2.2.2.2.2.2.2.2.2.1,.lst v.2.2.2.2.2.2.2.2.2.2.1 v.2.2.2.2.2.2.2.2.2.2.2.1,.lst v.2.2.2.2.2.2.2.2.2.2.2.2.1 v.2.2.2.2.2.2.2.2.2.2.2.2.2.1,.int v.2.2.2.2.2.2.2.2.2.2.2.2.2.2.1,.lst v.2.2.2.2.2.2.2.2.2.2.2.2.2.2.2.1 v.2.2.2.2.2.2.2.2.2.2.2.2.2.2.2.2.1,.int v.2.2.2.2.2.2.2.2.2.2.2.2.2.2.2.2.2.1,.int v.2.2.2.2.2.2.2.2.2.2.2.2.2.2.2.2.2.2.1,.int v.2.2.2.2.2.2.2.2.2.2.2.2.2.2.2.2.2.2.2.1,.int v.2.2.2.2.2.2.2.2.2.2.2.2.2.2.2.2.2.2.2.2]
 up:=fun ls=>match ls with
  | [.lst a0 a1,.lst a2 a3,.lst a4 a5,.lst a6 a7,.lst a8 a9,.lst a10 a11,.lst a12 a13,.int a14,.lst a15 a16,.int a17,.int a18,.int a19,.int a20]=>some (a0,a1,a2,a3,a4,a5,a6,a7,a8,a9,a10,a11,a12,a13,a14,a15,a16,a17,a18,a19,a20)
  | _=>none
 ok:=by intro _ _ h;split at h <;>cases h;rfl
def sg_llllllliii:Sig (Nat × List T × Nat × List T × Nat × List T × Nat × List T × Nat × List T × Nat × List T × Nat × List T × Int × Int × Int) where
 pk:=fun v=>[.lst v.1 v.2.1,.lst v.2.2.1 v.2.2.2.1,.lst v.2.2.2.2.1 v.2.2.2.2.2.1,.lst v.2.2.2.2.2.2.1 v.2.2.2.2.2.2.2.1,.lst v.2.2.2.2.2.2.2.2.1 v.2.2.2.2.2.2.2.2.2.1,.lst v.2.2.2.2.2.2.2.2.2.2.1 v.2.2.2.2.2.2.2.2.2.2.2.1,.lst v.2.2.2.2.2.2.2.2.2.2.2.2.1 v.2.2.2.2.2.2.2.2.2.2.2.2.2.1,.int v.2.2.2.2.2.2.2.2.2.2.2.2.2.2.1,.int v.2.2.2.2.2.2.2.2.2.2.2.2.2.2.2.1,.int v.2.2.2.2.2.2.2.2.2.2.2.2.2.2.2.2]
 up:=fun ls=>match ls with
  | [.lst a0 a1,.lst a2 a3,.lst a4 a5,.lst a6 a7,.lst a8 a9,.lst a10 a11,.lst a12 a13,.int a14,.int a15,.int a16]=>some (a0,a1,a2,a3,a4,a5,a6,a7,a8,a9,a10,a11,a12,a13,a14,a15,a16)
  | _=>none
 ok:=by intro _ _ h;split at h <;>cases h;rfl
def sg_llllllliiiiiii:Sig (Nat × List T × Nat × List T × Nat × List T × Nat × List T × Nat × List T × Nat × List T × Nat × List T × Int × Int × Int × Int × Int × Int × Int) where
 pk:=fun v=>[.lst v.1 v.2.1,.lst v.2.2.1 v.2.2.2.1,.lst v.2.2.2.2.1 v.2.2.2.2.2.1,.lst v.2.2.2.2.2.2.1 v.2.2.2.2.2.2.2.1,.lst v.2.2.2.2.2.2.2.2.1 v.2.2.2.2.2.2.2.2.2.1,.lst v.2.2.2.2.2.2.2.2.2.2.1 v.2.2.2.2.2.2.2.2.2.2.2.1,.lst v.2.2.2.2.2.2.2.2.2.2.2.2.1 v.2.2.2.2.2.2.2.2.2.2.2.2.2.1,.int v.2.2.2.2.2.2.2.2.2.2.2.2.2.2.1,.int v.2.2.2.2.2.2.2.2.2.2.2.2.2.2.2.1,.int v.2.2.2.2.2.2.2.2.2.2.2.2.2.2.2.2.1,.int v.2.2.2.2.2.2.2.2.2.2.2.2.2.2.2.2.2.1,.int v.2.2.2.2.2.2.2.2.2.2.2.2.2.2.2.2.2.2.1,.int v.2.2.2.2.2.2.2.2.2.2.2.2.2.2.2.2.2.2.2.1,.int v.2.2.2.2.2.2.2.2.2.2.2.2.2.2.2.2.2.2.2.2]
 up:=fun ls=>match ls with
  | [.lst a0 a1,.lst a2 a3,.lst a4 a5,.lst a6 a7,.lst a8 a9,.lst a10 a11,.lst a12 a13,.int a14,.int a15,.int a16,.int a17,.int a18,.int a19,.int a20]=>some (a0,a1,a2,a3,a4,a5,a6,a7,a8,a9,a10,a11,a12,a13,a14,a15,a16,a17,a18,a19,a20)
  | _=>none
 ok:=by intro _ _ h;split at h <;>cases h;rfl
def sg_llllllliiiii:Sig (Nat × List T × Nat × List T × Nat × List T × Nat × List T × Nat × List T × Nat × List T × Nat × List T × Int × Int × Int × Int × Int) where
 pk:=fun v=>[.lst v.1 v.2.1,.lst v.2.2.1 v.2.2.2.1,.lst v.2.2.2.2.1 v.2.2.2.2.2.1,.lst v.2.2.2.2.2.2.1 v.2.2.2.2.2.2.2.1,.lst v.2.2.2.2.2.2.2.2.1 v.2.2.2.2.2.2.2.2.2.1,.lst v.2.2.2.2.2.2.2.2.2.2.1 v.2.2.2.2.2.2.2.2.2.2.2.1,.lst v.2.2.2.2.2.2.2.2.2.2.2.2.1 v.2.2.2.2.2.2.2.2.2.2.2.2.2.1,.int v.2.2.2.2.2.2.2.2.2.2.2.2.2.2.1,.int v.2.2.2.2.2.2.2.2.2.2.2.2.2.2.2.1,.int v.2.2.2.2.2.2.2.2.2.2.2.2.2.2.2.2.1,.int v.2.2.2.2.2.2.2.2.2.2.2.2.2.2.2.2.2.1,.int v.2.2.2.2.2.2.2.2.2.2.2.2.2.2.2.2.2.2]
 up:=fun ls=>match ls with
  | [.lst a0 a1,.lst a2 a3,.lst a4 a5,.lst a6 a7,.lst a8 a9,.lst a10 a11,.lst a12 a13,.int a14,.int a15,.int a16,.int a17,.int a18]=>some (a0,a1,a2,a3,a4,a5,a6,a7,a8,a9,a10,a11,a12,a13,a14,a15,a16,a17,a18)
  | _=>none
 ok:=by intro _ _ h;split at h <;>cases h;rfl
def sg_lllllllii:Sig (Nat × List T × Nat × List T × Nat × List T × Nat × List T × Nat × List T × Nat × List T × Nat × List T × Int × Int) where
 pk:=fun v=>[.lst v.1 v.2.1,.lst v.2.2.1 v.2.2.2.1,.lst v.2.2.2.2.1 v.2.2.2.2.2.1,.lst v.2.2.2.2.2.2.1 v.2.2.2.2.2.2.2.1,.lst v.2.2.2.2.2.2.2.2.1 v.2.2.2.2.2.2.2.2.2.1,.lst v.2.2.2.2.2.2.2.2.2.2.1 v.2.2.2.2.2.2.2.2.2.2.2.1,.lst v.2.2.2.2.2.2.2.2.2.2.2.2.1 v.2.2.2.2.2.2.2.2.2.2.2.2.2.1,.int v.2.2.2.2.2.2.2.2.2.2.2.2.2.2.1,.int v.2.2.2.2.2.2.2.2.2.2.2.2.2.2.2]
 up:=fun ls=>match ls with
  | [.lst a0 a1,.lst a2 a3,.lst a4 a5,.lst a6 a7,.lst a8 a9,.lst a10 a11,.lst a12 a13,.int a14,.int a15]=>some (a0,a1,a2,a3,a4,a5,a6,a7,a8,a9,a10,a11,a12,a13,a14,a15)
  | _=>none
 ok:=by intro _ _ h;split at h <;>cases h;rfl
def f62.l1.P:AS:=⟨[(1,.box [.sl .shr [.leaf,.leaf,.sl .shr [.leaf]],.sl .shr [.sl .shr [.leaf,.leaf,.sl .shr [.leaf]],.leaf,.leaf,.leaf,.leaf]] [.lst 0 [],.lst 0 []] [] 0),(2,.box [.sl .own [.leaf,.leaf,.sl .own [.leaf]],.sl .own [.sl .own [.leaf,.leaf,.sl .own [.leaf]],.leaf,.leaf,.leaf,.leaf]] [.lst 0 [],.lst 0 []] [] 0),(4,.box [.sl .own [.leaf,.leaf,.sl .own [.leaf]],.sl .own [.sl .own [.leaf,.leaf,.sl .own [.leaf]],.leaf,.leaf,.leaf,.leaf]] [.lst 0 [],.lst 0 []] [] 0),(5,qS33),(6,qS34),(7,qS30),(21,qS34),(22,qS34),(42,qS34),(43,qS34)],0⟩
def f62.l1.A:Alt (Nat × List T × Nat × List T × Nat × List T × Nat × List T × Nat × List T × Nat × List T × Nat × List T × Int × Int × Int):=.one (.exit 2) ⟨[(1,.box [.sl .shr [.leaf,.leaf,.sl .shr [.leaf]],.sl .shr [.sl .shr [.leaf,.leaf,.sl .shr [.leaf]],.leaf,.leaf,.leaf,.leaf]] [.lst 0 [],.lst 0 []] [] 0),(2,.box [.sl .own [.leaf,.leaf,.sl .own [.leaf]],.sl .own [.sl .own [.leaf,.leaf,.sl .own [.leaf]],.leaf,.leaf,.leaf,.leaf]] [.lst 0 [],.lst 0 []] [] 0),(4,.box [.sl .own [.leaf,.leaf,.sl .own [.leaf]],.sl .own [.sl .own [.leaf,.leaf,.sl .own [.leaf]],.leaf,.leaf,.leaf,.leaf]] [.lst 0 [],.lst 0 []] [] 0),(5,qS33),(6,qS34),(21,qS34),(22,qS34),(79,.dead),(119,.dead),(140,.dead)],0⟩ sg_llllllliii
def f62.l1.F (n m:Nat) (v:Nat × List T × Nat × List T × Nat × List T × Nat × List T × Nat × List T × Nat × List T × Nat × List T × Int × Nat × List T × Int × Int × Int × Int):=f62.l1 n m v.1 v.2.1 v.2.2.1 v.2.2.2.1 v.2.2.2.2.1 v.2.2.2.2.2.1 v.2.2.2.2.2.2.1 v.2.2.2.2.2.2.2.1 v.2.2.2.2.2.2.2.2.1 v.2.2.2.2.2.2.2.2.2.1 v.2.2.2.2.2.2.2.2.2.2.1 v.2.2.2.2.2.2.2.2.2.2.2.1 v.2.2.2.2.2.2.2.2.2.2.2.2.1 v.2.2.2.2.2.2.2.2.2.2.2.2.2.1 v.2.2.2.2.2.2.2.2.2.2.2.2.2.2.1 v.2.2.2.2.2.2.2.2.2.2.2.2.2.2.2.1 v.2.2.2.2.2.2.2.2.2.2.2.2.2.2.2.2.1 v.2.2.2.2.2.2.2.2.2.2.2.2.2.2.2.2.2.1 v.2.2.2.2.2.2.2.2.2.2.2.2.2.2.2.2.2.2.1 v.2.2.2.2.2.2.2.2.2.2.2.2.2.2.2.2.2.2.2.1 v.2.2.2.2.2.2.2.2.2.2.2.2.2.2.2.2.2.2.2.2
def f62.l1.W (n:Nat):LpW:=.of 208 f62.l1.P sg_llllllliliiii f62.l1.A (f62.l1.F n n)
def f62.l2.P:AS:=⟨[(1,.box [.sl .shr [.leaf,.leaf,.sl .shr [.leaf]],.sl .shr [.sl .shr [.leaf,.leaf,.sl .shr [.leaf]],.leaf,.leaf,.leaf,.leaf]] [.lst 0 [],.lst 0 []] [] 0),(2,.box [.sl .own [.leaf,.leaf,.sl .own [.leaf]],.sl .own [.sl .own [.leaf,.leaf,.sl .own [.leaf]],.leaf,.leaf,.leaf,.leaf]] [.lst 0 [],.lst 0 []] [] 0),(4,.box [.sl .own [.leaf,.leaf,.sl .own [.leaf]],.sl .own [.sl .own [.leaf,.leaf,.sl .own [.leaf]],.leaf,.leaf,.leaf,.leaf]] [.lst 0 [],.lst 0 []] [] 0),(5,qS33),(6,qS34),(9,qS34),(10,qS34),(21,qS34),(22,qS34),(82,qS34),(83,qS34)],0⟩
def f62.l2.A:Alt (Nat × List T × Nat × List T × Nat × List T × Nat × List T × Nat × List T × Nat × List T × Nat × List T × Int × Int × Int × Int × Int):=.one (.exit 4) ⟨[(1,.box [.sl .shr [.leaf,.leaf,.sl .shr [.leaf]],.sl .shr [.sl .shr [.leaf,.leaf,.sl .shr [.leaf]],.leaf,.leaf,.leaf,.leaf]] [.lst 0 [],.lst 0 []] [] 0),(2,.box [.sl .own [.leaf,.leaf,.sl .own [.leaf]],.sl .own [.sl .own [.leaf,.leaf,.sl .own [.leaf]],.leaf,.leaf,.leaf,.leaf]] [.lst 0 [],.lst 0 []] [] 0),(4,.box [.sl .own [.leaf,.leaf,.sl .own [.leaf]],.sl .own [.sl .own [.leaf,.leaf,.sl .own [.leaf]],.leaf,.leaf,.leaf,.leaf]] [.lst 0 [],.lst 0 []] [] 0),(5,qS33),(6,qS34),(9,qS34),(10,qS34),(21,qS34),(22,qS34),(79,.dead),(119,.dead),(140,.dead)],0⟩ sg_llllllliiiii
def f62.l2.F (n m:Nat) (v:Nat × List T × Nat × List T × Nat × List T × Nat × List T × Nat × List T × Nat × List T × Nat × List T × Int × Int × Int × Int × Int × Int × Int):=f62.l2 n m v.1 v.2.1 v.2.2.1 v.2.2.2.1 v.2.2.2.2.1 v.2.2.2.2.2.1 v.2.2.2.2.2.2.1 v.2.2.2.2.2.2.2.1 v.2.2.2.2.2.2.2.2.1 v.2.2.2.2.2.2.2.2.2.1 v.2.2.2.2.2.2.2.2.2.2.1 v.2.2.2.2.2.2.2.2.2.2.2.1 v.2.2.2.2.2.2.2.2.2.2.2.2.1 v.2.2.2.2.2.2.2.2.2.2.2.2.2.1 v.2.2.2.2.2.2.2.2.2.2.2.2.2.2.1 v.2.2.2.2.2.2.2.2.2.2.2.2.2.2.2.1 v.2.2.2.2.2.2.2.2.2.2.2.2.2.2.2.2.1 v.2.2.2.2.2.2.2.2.2.2.2.2.2.2.2.2.2.1 v.2.2.2.2.2.2.2.2.2.2.2.2.2.2.2.2.2.2.1 v.2.2.2.2.2.2.2.2.2.2.2.2.2.2.2.2.2.2.2.1 v.2.2.2.2.2.2.2.2.2.2.2.2.2.2.2.2.2.2.2.2
def f62.l2.W (n:Nat):LpW:=.of 336 f62.l2.P sg_llllllliiiiiii f62.l2.A (f62.l2.F n n)
def f62.l0.P:AS:=⟨[(1,.box [.sl .shr [.leaf,.leaf,.sl .shr [.leaf]],.sl .shr [.sl .shr [.leaf,.leaf,.sl .shr [.leaf]],.leaf,.leaf,.leaf,.leaf]] [.lst 0 [],.lst 0 []] [] 0),(2,.box [.sl .own [.leaf,.leaf,.sl .own [.leaf]],.sl .own [.sl .own [.leaf,.leaf,.sl .own [.leaf]],.leaf,.leaf,.leaf,.leaf]] [.lst 0 [],.lst 0 []] [] 0),(4,.box [.sl .own [.leaf,.leaf,.sl .own [.leaf]],.sl .own [.sl .own [.leaf,.leaf,.sl .own [.leaf]],.leaf,.leaf,.leaf,.leaf]] [.lst 0 [],.lst 0 []] [] 0),(5,qS33),(21,qS34),(22,qS34)],0⟩
def f62.l0.A:Alt (Nat × List T × Nat × List T × Nat × List T × Nat × List T):=.one (.exit 0) ⟨[(2,.box [.sl .own [.leaf,.leaf,.sl .own [.leaf]],.sl .own [.sl .own [.leaf,.leaf,.sl .own [.leaf]],.leaf,.leaf,.leaf,.leaf]] [.lst 0 [],.lst 0 []] [] 0),(4,.box [.sl .own [.leaf,.leaf,.sl .own [.leaf]],.sl .own [.sl .own [.leaf,.leaf,.sl .own [.leaf]],.leaf,.leaf,.leaf,.leaf]] [.lst 0 [],.lst 0 []] [] 0)],0⟩ sg_llll
def f62.l0.F (n m:Nat) (v:Nat × List T × Nat × List T × Nat × List T × Nat × List T × Nat × List T × Nat × List T × Nat × List T × Int × Int):=f62.l0 n m v.1 v.2.1 v.2.2.1 v.2.2.2.1 v.2.2.2.2.1 v.2.2.2.2.2.1 v.2.2.2.2.2.2.1 v.2.2.2.2.2.2.2.1 v.2.2.2.2.2.2.2.2.1 v.2.2.2.2.2.2.2.2.2.1 v.2.2.2.2.2.2.2.2.2.2.1 v.2.2.2.2.2.2.2.2.2.2.2.1 v.2.2.2.2.2.2.2.2.2.2.2.2.1 v.2.2.2.2.2.2.2.2.2.2.2.2.2.1 v.2.2.2.2.2.2.2.2.2.2.2.2.2.2.1 v.2.2.2.2.2.2.2.2.2.2.2.2.2.2.2
def f62.l0.W (n:Nat):LpW:=.of 112 f62.l0.P sg_lllllllii f62.l0.A (f62.l0.F n n)
def f62.P:List Arg:=[qA23]
def f62.A:RAlt (Nat × List T × Nat × List T × Bool):=.one ⟨[qV2,qV14],[none]⟩ sg_llb
def f62.F (n:Nat) (v:Nat × List T × Nat × List T):=f62 n v.1 v.2.1 v.2.2.1 v.2.2.2
def f62.O (n:Nat):Orc:=orcOf (E:=E) [f105.w,f119.w,f107.w,f121.w,f122.w,f124.w,f123.w,f125.w,f126.w] [f62.l1.W n,f62.l2.W n,f62.l0.W n] n
theorem f62.l1.ok:∀ n,LpS 62 c62 1 n (f62.O n):=lpS f62.l1.P sg_llllllliliiii f62.l1.A f62.l1.F
theorem f62.l2.ok:∀ n,LpS 62 c62 2 n (f62.O n):=lpS f62.l2.P sg_llllllliiiiiii f62.l2.A f62.l2.F
theorem f62.l0.ok:∀ n,LpS 62 c62 0 n (f62.O n):=lpS f62.l0.P sg_lllllllii f62.l0.A f62.l0.F [loopAt c62 1,loopAt c62 2] (fun n=>(.cons (f62.l1.ok n) (.cons (f62.l2.ok n) .nil)))
theorem f62.ok:FnS 62 f62.P sg_ll f62.A f62.F:=fnS c62 f62.O [loopAt c62 0] (fun n=>(.cons (f62.l0.ok n) .nil))
def f62.w:FnW E:=fnW 62 f62.P sg_ll f62.A f62.F f62.ok
def f87:Nat→Int→Option (Int)
 | 0,_=>none
 | n+1,i1 =>
   some i1
def f87.P:List Arg:=[qA17]
def f87.A:RAlt (Int):=.one ⟨[qV13],[none]⟩ sg_i
def f87.F (n:Nat) (v:Int):=f87 n v
def f87.O (n:Nat):Orc:=orcOf (E:=E) [] [] n
theorem f87.ok:FnS 87 f87.P sg_i f87.A f87.F:=fnS c87 f87.O
def f87.w:FnW E:=fnW 87 f87.P sg_i f87.A f87.F f87.ok
def f67:Nat→Int→Int→Int→Option (Bool)
 | 0,_,_,_=>none
 | n+1,i1,i2,i3 =>
   br (decide (i2≤i1)) (
    some (decide (i1≤i3))) (
    some false)
def f67.P:List Arg:=[qA17,qA17,qA17]
def f67.A:RAlt (Bool):=.one ⟨[qV14],[none,none,none]⟩ sg_b
def f67.F (n:Nat) (v:Int × Int × Int):=f67 n v.1 v.2.1 v.2.2
def f67.O (n:Nat):Orc:=orcOf (E:=E) [] [] n
theorem f67.ok:FnS 67 f67.P sg_iii f67.A f67.F:=fnS c67 f67.O
def f67.w:FnW E:=fnW 67 f67.P sg_iii f67.A f67.F f67.ok
def f89:Nat→Int→Option (Bool)
 | 0,_=>none
 | n+1,i1 =>
   bd (f67 n i1 (1:Int) (8:Int)) fun r2 =>
   let b3:=r2
   some b3
def f89.P:List Arg:=[qA17]
def f89.A:RAlt (Bool):=.one ⟨[qV14],[none]⟩ sg_b
def f89.F (n:Nat) (v:Int):=f89 n v
def f89.O (n:Nat):Orc:=orcOf (E:=E) [f67.w] [] n
theorem f89.ok:FnS 89 f89.P sg_i f89.A f89.F:=fnS c89 f89.O
def f89.w:FnW E:=fnW 89 f89.P sg_i f89.A f89.F f89.ok
def f136:Nat→Int→Int→Nat→List T→Int→Int→Int→Option (Bool)
 | 0,_,_,_,_,_,_,_=>none
 | n+1,i1,i2,n3,l4,i5,i6,i7 =>
   bd (f67 n i2 i5 i6) fun r8 =>
   let b9:=r8
   br b9 (
    some ((n3:Int)==i7)) (
    some false)
def sg_iiliii:Sig (Int × Int × Nat × List T × Int × Int × Int) where
 pk:=fun v=>[.int v.1,.int v.2.1,.lst v.2.2.1 v.2.2.2.1,.int v.2.2.2.2.1,.int v.2.2.2.2.2.1,.int v.2.2.2.2.2.2]
 up:=fun ls=>match ls with
  | [.int a0,.int a1,.lst a2 a3,.int a4,.int a5,.int a6]=>some (a0,a1,a2,a3,a4,a5,a6)
  | _=>none
 ok:=by intro _ _ h;split at h <;>cases h;rfl
def f136.P:List Arg:=[qA19,qA17,qA17,qA17]
def f136.A:RAlt (Bool):=.one ⟨[qV14],[none,none,none,none]⟩ sg_b
def f136.F (n:Nat) (v:Int × Int × Nat × List T × Int × Int × Int):=f136 n v.1 v.2.1 v.2.2.1 v.2.2.2.1 v.2.2.2.2.1 v.2.2.2.2.2.1 v.2.2.2.2.2.2
def f136.O (n:Nat):Orc:=orcOf (E:=E) [f67.w] [] n
theorem f136.ok:FnS 136 f136.P sg_iiliii f136.A f136.F:=fnS c136 f136.O
def f136.w:FnW E:=fnW 136 f136.P sg_iiliii f136.A f136.F f136.ok
def f174:Nat→Nat→Option (Bool)
 | 0,_=>none
 | n+1,x1 =>
   some (feq .f32 (fsub .f32 x1 x1) 0)
def f174.P:List Arg:=[qA18]
def f174.A:RAlt (Bool):=.one ⟨[qV14],[none]⟩ sg_b
def f174.F (n:Nat) (v:Nat):=f174 n v
def f174.O (n:Nat):Orc:=orcOf (E:=E) [] [] n
theorem f174.ok:FnS 174 f174.P sg_f f174.A f174.F:=fnS c174 f174.O
def f174.w:FnW E:=fnW 174 f174.P sg_f f174.A f174.F f174.ok
def f137:Nat→Nat→Option (Bool)
 | 0,_=>none
 | n+1,x1 =>
   bd (f174 n x1) fun r2 =>
   let b3:=r2
   br b3 (
    some (fgt .f32 x1 0)) (
    some false)
def f137.P:List Arg:=[qA18]
def f137.A:RAlt (Bool):=.one ⟨[qV14],[none]⟩ sg_b
def f137.F (n:Nat) (v:Nat):=f137 n v
def f137.O (n:Nat):Orc:=orcOf (E:=E) [f174.w] [] n
theorem f137.ok:FnS 137 f137.P sg_f f137.A f137.F:=fnS c137 f137.O
def f137.w:FnW E:=fnW 137 f137.P sg_f f137.A f137.F f137.ok
def f76:Nat→Int→Int→Nat→List T→Option (Bool)
 | 0,_,_,_,_=>none
 | n+1,i1,i2,n3,l4 =>
   br (i1==(0:Int)) (
    br (i1==(0:Int)) (
     bd (f136 n i1 i2 n3 l4 (0:Int) (0:Int) (1:Int)) fun r5 =>
     let b6:=r5
     some b6) (
     br (i1==(1:Int)) (
      bd (f136 n i1 i2 n3 l4 (0:Int) (0:Int) (5:Int)) fun r7 =>
      let b8:=r7
      some b8) (
      br (i1==(2:Int)) (
       bd (f136 n i1 i2 n3 l4 (1:Int) (32:Int) (2:Int)) fun r9 =>
       let b10:=r9
       some b10) (
       br (i1==(3:Int)) (
        bd (f136 n i1 i2 n3 l4 (0:Int) (0:Int) (4:Int)) fun r11 =>
        let b12:=r11
        some b12) (
        br (i1==(5:Int)) (
         bd (f136 n i1 i2 n3 l4 (0:Int) (0:Int) (0:Int)) fun r13 =>
         let b14:=r13
         some b14) (
         br (i1==(6:Int)) (
          bd (f136 n i1 i2 n3 l4 (0:Int) (32:Int) (2:Int)) fun r15 =>
          let b16:=r15
          br b16 (
           gd ((decide ((0≤(0:Int))∧((0:Int)<(n3:Int))))&&(okAt [(CK.flt .f32)] l4 0)) (
           bd (f137 n (fAt l4 0)) fun r17 =>
           let b18:=r17
           some b18)) (
           some false)) (
          some false))))))) (
    br (i1==(4:Int)) (
     bd (f136 n i1 i2 n3 l4 (0:Int) (0:Int) (1:Int)) fun r19 =>
     let b20:=r19
     some b20) (
     br (i1==(1:Int)) (
      bd (f136 n i1 i2 n3 l4 (0:Int) (0:Int) (5:Int)) fun r21 =>
      let b22:=r21
      some b22) (
      br (i1==(2:Int)) (
       bd (f136 n i1 i2 n3 l4 (1:Int) (32:Int) (2:Int)) fun r23 =>
       let b24:=r23
       some b24) (
       br (i1==(3:Int)) (
        bd (f136 n i1 i2 n3 l4 (0:Int) (0:Int) (4:Int)) fun r25 =>
        let b26:=r25
        some b26) (
        br (i1==(5:Int)) (
         bd (f136 n i1 i2 n3 l4 (0:Int) (0:Int) (0:Int)) fun r27 =>
         let b28:=r27
         some b28) (
         br (i1==(6:Int)) (
          bd (f136 n i1 i2 n3 l4 (0:Int) (32:Int) (2:Int)) fun r29 =>
          let b30:=r29
          br b30 (
           gd ((decide ((0≤(0:Int))∧((0:Int)<(n3:Int))))&&(okAt [(CK.flt .f32)] l4 0)) (
           bd (f137 n (fAt l4 0)) fun r31 =>
           let b32:=r31
           some b32)) (
           some false)) (
          some false)))))))
def f76.P:List Arg:=[qA19]
def f76.A:RAlt (Bool):=.one ⟨[qV14],[none]⟩ sg_b
def f76.F (n:Nat) (v:Int × Int × Nat × List T):=f76 n v.1 v.2.1 v.2.2.1 v.2.2.2
def f76.O (n:Nat):Orc:=orcOf (E:=E) [f136.w,f137.w] [] n
theorem f76.ok:FnS 76 f76.P sg_iil f76.A f76.F:=fnS c76 f76.O
def f76.w:FnW E:=fnW 76 f76.P sg_iil f76.A f76.F f76.ok
def f23.l0 (n:Nat):Nat→Nat→List T→Nat→List T→Int→Int→Option ((Bool) ⊕ (Unit))
 | 0,_,_,_,_,_,_=>none
 | m+1,n1,l2,n3,l4,i5,i6 =>
   br (decide (i6<i5)) (
    gd ((decide ((0≤i6)∧(i6<(n3:Int))))&&(okAt [(CK.int .i64),(CK.int .i64),CK.lst] l4 (((Int.toNat i6) * 3)+0))) (
    let i7:=(iAt l4 (((Int.toNat i6) * 3)+0))
    let i8:=(iAt l4 ((((Int.toNat i6) * 3)+0)+1))
    let n9:=(nAt l4 (((((Int.toNat i6) * 3)+0)+1)+1))
    let l10:=(lAt l4 (((((Int.toNat i6) * 3)+0)+1)+1))
    bd (f76 n i7 i8 n9 l10) fun r11 =>
    let b12:=r11
    br (!b12) (
     some (Sum.inl false)) (
     f23.l0 n m n1 l2 n3 l4 i5 (IntKind.i64.wrap (i6+(1:Int)))))) (
    some (Sum.inr ()))
def f23:Nat→Nat→List T→Option (Bool)
 | 0,_,_=>none
 | n+1,n1,l2 =>
   br (decide ((n1:Int)>(8:Int))) (
    some false) (
    bd (f23.l0 n n n1 l2 n1 l2 (n1:Int) (0:Int)) fun r3 =>
    sm r3 (fun u4 =>
     let b5:=u4
     some b5) (fun u6 =>
     some true))
def f23.l0.P:AS:=⟨[(0,qS29),(8,qS29),(9,qS34),(10,qS34)],0⟩
def f23.l0.A:Alt ((Bool) ⊕ (Unit)):=.or (.one .ret ⟨[(2,qS35)],0⟩ sg_b) (.one (.exit 0) ⟨[(2,.dead)],0⟩ sg)
def f23.l0.F (n m:Nat) (v:Nat × List T × Nat × List T × Int × Int):=f23.l0 n m v.1 v.2.1 v.2.2.1 v.2.2.2.1 v.2.2.2.2.1 v.2.2.2.2.2
def f23.l0.W (n:Nat):LpW:=.of 64 f23.l0.P sg_llii f23.l0.A (f23.l0.F n n)
def f23.P:List Arg:=[qA20]
def f23.A:RAlt (Bool):=.one ⟨[qV14],[none]⟩ sg_b
def f23.F (n:Nat) (v:Nat × List T):=f23 n v.1 v.2
def f23.O (n:Nat):Orc:=orcOf (E:=E) [f76.w] [f23.l0.W n] n
theorem f23.l0.ok:∀ n,LpS 23 c23 0 n (f23.O n):=lpS f23.l0.P sg_llii f23.l0.A f23.l0.F
theorem f23.ok:FnS 23 f23.P sg_l f23.A f23.F:=fnS c23 f23.O [loopAt c23 0] (fun n=>(.cons (f23.l0.ok n) .nil))
def f23.w:FnW E:=fnW 23 f23.P sg_l f23.A f23.F f23.ok
def f143:Nat→Int→Option (Bool)
 | 0,_=>none
 | n+1,i1 =>
   bd (f67 n i1 (-2000:Int) (2000:Int)) fun r2 =>
   let b3:=r2
   some b3
def f143.P:List Arg:=[qA17]
def f143.A:RAlt (Bool):=.one ⟨[qV14],[none]⟩ sg_b
def f143.F (n:Nat) (v:Int):=f143 n v
def f143.O (n:Nat):Orc:=orcOf (E:=E) [f67.w] [] n
theorem f143.ok:FnS 143 f143.P sg_i f143.A f143.F:=fnS c143 f143.O
def f143.w:FnW E:=fnW 143 f143.P sg_i f143.A f143.F f143.ok
def f144:Nat→Nat→Option (Bool)
 | 0,_=>none
 | n+1,x1 =>
   br (fge .f32 x1 0) (
    some (fle .f32 x1 1065353216)) (
    some false)
def f144.P:List Arg:=[qA18]
def f144.A:RAlt (Bool):=.one ⟨[qV14],[none]⟩ sg_b
def f144.F (n:Nat) (v:Nat):=f144 n v
def f144.O (n:Nat):Orc:=orcOf (E:=E) [] [] n
theorem f144.ok:FnS 144 f144.P sg_f f144.A f144.F:=fnS c144 f144.O
def f144.w:FnW E:=fnW 144 f144.P sg_f f144.A f144.F f144.ok
def f101.l0 (n:Nat):Nat→Nat→List T→Nat→List T→Nat→List T→Int→Int→Option ((Bool) ⊕ (Nat × List T × Nat × List T))
 | 0,_,_,_,_,_,_,_,_=>none
 | m+1,n1,l2,n3,l4,n5,l6,i7,i8 =>
   br (decide (i8<i7)) (
    gd ((decide ((0≤i8)∧(i8<(n5:Int))))&&(okAt [CK.lst,(CK.int .i64),(CK.flt .f32),CK.bool,CK.bool] l6 (((Int.toNat i8) * 5)+0))) (
    let n9:=(nAt l6 (((Int.toNat i8) * 5)+0))
    let l10:=(lAt l6 (((Int.toNat i8) * 5)+0))
    let i11:=(iAt l6 ((((Int.toNat i8) * 5)+0)+1))
    let x12:=(fAt l6 (((((Int.toNat i8) * 5)+0)+1)+1))
    let b13:=(bAt l6 ((((((Int.toNat i8) * 5)+0)+1)+1)+1))
    let b14:=(bAt l6 (((((((Int.toNat i8) * 5)+0)+1)+1)+1)+1))
    bd (f23 n n9 l10) fun r15 =>
    let b16:=r15
    br (!b16) (
     some (Sum.inl false)) (
     bd (f143 n i11) fun r17 =>
     let b18:=r17
     br (!b18) (
      some (Sum.inl false)) (
      bd (f144 n x12) fun r19 =>
      let b20:=r19
      br (!b20) (
       some (Sum.inl false)) (
       f101.l0 n m n1 l2 n3 l4 n5 l6 i7 (IntKind.i64.wrap (i8+(1:Int)))))))) (
    some (Sum.inr (n1,l2,n3,l4)))
def f83:Nat→Int→Int→Option (Bool)
 | 0,_,_=>none
 | n+1,i1,i2 =>
   bd (f67 n i1 (0:Int) (IntKind.i64.wrap (i2 - (1:Int)))) fun r3 =>
   let b4:=r3
   some b4
def f83.P:List Arg:=[qA17,qA17]
def f83.A:RAlt (Bool):=.one ⟨[qV14],[none,none]⟩ sg_b
def f83.F (n:Nat) (v:Int × Int):=f83 n v.1 v.2
def f83.O (n:Nat):Orc:=orcOf (E:=E) [f67.w] [] n
theorem f83.ok:FnS 83 f83.P sg_ii f83.A f83.F:=fnS c83 f83.O
def f83.w:FnW E:=fnW 83 f83.P sg_ii f83.A f83.F f83.ok
def f81:Nat→Int→Option (Bool)
 | 0,_=>none
 | n+1,i1 =>
   bd (f67 n i1 (0:Int) (256:Int)) fun r2 =>
   let b3:=r2
   some b3
def f81.P:List Arg:=[qA17]
def f81.A:RAlt (Bool):=.one ⟨[qV14],[none]⟩ sg_b
def f81.F (n:Nat) (v:Int):=f81 n v
def f81.O (n:Nat):Orc:=orcOf (E:=E) [f67.w] [] n
theorem f81.ok:FnS 81 f81.P sg_i f81.A f81.F:=fnS c81 f81.O
def f81.w:FnW E:=fnW 81 f81.P sg_i f81.A f81.F f81.ok
def f66:Nat→Nat→List T→Option (Bool)
 | 0,_,_=>none
 | n+1,n1,l2 =>
   some (decide ((n1:Int)≤(256:Int)))
def f66.P:List Arg:=[qA16]
def f66.A:RAlt (Bool):=.one ⟨[qV14],[none]⟩ sg_b
def f66.F (n:Nat) (v:Nat × List T):=f66 n v.1 v.2
def f66.O (n:Nat):Orc:=orcOf (E:=E) [] [] n
theorem f66.ok:FnS 66 f66.P sg_l f66.A f66.F:=fnS c66 f66.O
def f66.w:FnW E:=fnW 66 f66.P sg_l f66.A f66.F f66.ok
def f101.l1 (n:Nat):Nat→Nat→List T→Nat→List T→Nat→List T→Int→Int→Option ((Bool) ⊕ (Unit))
 | 0,_,_,_,_,_,_,_,_=>none
 | m+1,n1,l2,n3,l4,n5,l6,i7,i8 =>
   br (decide (i8<i7)) (
    gd ((decide ((0≤i8)∧(i8<(n5:Int))))&&(okAt [(CK.int .i64),(CK.int .i64),CK.lst] l6 (((Int.toNat i8) * 3)+0))) (
    let i9:=(iAt l6 (((Int.toNat i8) * 3)+0))
    let i10:=(iAt l6 ((((Int.toNat i8) * 3)+0)+1))
    let n11:=(nAt l6 (((((Int.toNat i8) * 3)+0)+1)+1))
    let l12:=(lAt l6 (((((Int.toNat i8) * 3)+0)+1)+1))
    bd (f83 n i9 (n3:Int)) fun r13 =>
    let b14:=r13
    br (!b14) (
     some (Sum.inl false)) (
     bd (f81 n i10) fun r15 =>
     let b16:=r15
     br (!b16) (
      some (Sum.inl false)) (
      bd (f66 n n11 l12) fun r17 =>
      let b18:=r17
      br (!b18) (
       some (Sum.inl false)) (
       f101.l1 n m n1 l2 n3 l4 n5 l6 i7 (IntKind.i64.wrap (i8+(1:Int)))))))) (
    some (Sum.inr ()))
def f101:Nat→Nat→List T→Nat→List T→Option (Bool)
 | 0,_,_,_,_=>none
 | n+1,n1,l2,n3,l4 =>
   bd (f87 n (n3:Int)) fun r5 =>
   let i6:=r5
   bd (f89 n i6) fun r7 =>
   let b8:=r7
   br (!b8) (
    some false) (
    br (decide ((n1:Int)>(12:Int))) (
     some false) (
     bd (f101.l0 n n n1 l2 n3 l4 n3 l4 (n3:Int) (0:Int)) fun r9 =>
     sm r9 (fun u10 =>
      let b11:=u10
      some b11) (fun u12 =>
      let n13:=u12.1
      let l14:=u12.2.1
      let n15:=u12.2.2.1
      let l16:=u12.2.2.2
      bd (f101.l1 n n n13 l14 n15 l16 n13 l14 (n13:Int) (0:Int)) fun r17 =>
      sm r17 (fun u18 =>
       let b19:=u18
       some b19) (fun u20 =>
       some true))))
def f101.l0.P:AS:=⟨[(1,.box [.sl .shr [.leaf,.leaf,.sl .shr [.leaf]],.sl .shr [.sl .shr [.leaf,.leaf,.sl .shr [.leaf]],.leaf,.leaf,.leaf,.leaf]] [.lst 0 [],.lst 0 []] [] 0),(20,qS27),(21,qS34),(22,qS34)],0⟩
def f101.l0.A:Alt ((Bool) ⊕ (Nat × List T × Nat × List T)):=.or (.one .ret ⟨[(1,.dead),(2,qS35),(69,.dead)],0⟩ sg_b) (.one (.exit 0) ⟨[(1,.box [.sl .shr [.leaf,.leaf,.sl .shr [.leaf]],.sl .shr [.sl .shr [.leaf,.leaf,.sl .shr [.leaf]],.leaf,.leaf,.leaf,.leaf]] [.lst 0 [],.lst 0 []] [] 0),(2,.dead),(69,.dead)],0⟩ sg_ll)
def f101.l0.F (n m:Nat) (v:Nat × List T × Nat × List T × Nat × List T × Int × Int):=f101.l0 n m v.1 v.2.1 v.2.2.1 v.2.2.2.1 v.2.2.2.2.1 v.2.2.2.2.2.1 v.2.2.2.2.2.2.1 v.2.2.2.2.2.2.2
def f101.l0.W (n:Nat):LpW:=.of 64 f101.l0.P sg_lllii f101.l0.A (f101.l0.F n n)
def f101.l1.P:AS:=⟨[(1,.box [.sl .shr [.leaf,.leaf,.sl .shr [.leaf]],.sl .shr [.sl .shr [.leaf,.leaf,.sl .shr [.leaf]],.leaf,.leaf,.leaf,.leaf]] [.lst 0 [],.lst 0 []] [] 0),(44,qS29),(45,qS34),(46,qS34)],0⟩
def f101.l1.A:Alt ((Bool) ⊕ (Unit)):=.or (.one .ret ⟨[(2,qS35)],0⟩ sg_b) (.one (.exit 2) ⟨[(2,.dead)],0⟩ sg)
def f101.l1.F (n m:Nat) (v:Nat × List T × Nat × List T × Nat × List T × Int × Int):=f101.l1 n m v.1 v.2.1 v.2.2.1 v.2.2.2.1 v.2.2.2.2.1 v.2.2.2.2.2.1 v.2.2.2.2.2.2.1 v.2.2.2.2.2.2.2
def f101.l1.W (n:Nat):LpW:=.of 160 f101.l1.P sg_lllii f101.l1.A (f101.l1.F n n)
def f101.P:List Arg:=[qA23]
def f101.A:RAlt (Bool):=.one ⟨[qV14],[none]⟩ sg_b
def f101.F (n:Nat) (v:Nat × List T × Nat × List T):=f101 n v.1 v.2.1 v.2.2.1 v.2.2.2
def f101.O (n:Nat):Orc:=orcOf (E:=E) [f87.w,f89.w,f23.w,f143.w,f144.w,f83.w,f81.w,f66.w] [f101.l0.W n,f101.l1.W n] n
theorem f101.l0.ok:∀ n,LpS 101 c101 0 n (f101.O n):=lpS f101.l0.P sg_lllii f101.l0.A f101.l0.F
theorem f101.l1.ok:∀ n,LpS 101 c101 1 n (f101.O n):=lpS f101.l1.P sg_lllii f101.l1.A f101.l1.F
theorem f101.ok:FnS 101 f101.P sg_ll f101.A f101.F:=fnS c101 f101.O [loopAt c101 0,loopAt c101 1] (fun n=>(.cons (f101.l0.ok n) (.cons (f101.l1.ok n) .nil)))
def f101.w:FnW E:=fnW 101 f101.P sg_ll f101.A f101.F f101.ok
def f84:Nat→Nat→List T→Option (Nat × List T)
 | 0,_,_=>none
 | n+1,n1,l2 =>
   gd (Nat.ble (0+n1) 2147483648) (
   some ((0+n1),((reps 0 [(T.flt .f32 0)])++l2)))
def f84.P:List Arg:=[qA16]
def f84.A:RAlt (Nat × List T):=.one ⟨[qV12],[none]⟩ sg_l
def f84.F (n:Nat) (v:Nat × List T):=f84 n v.1 v.2
def f84.O (n:Nat):Orc:=orcOf (E:=E) [] [] n
theorem f84.ok:FnS 84 f84.P sg_l f84.A f84.F:=fnS c84 f84.O
def f84.w:FnW E:=fnW 84 f84.P sg_l f84.A f84.F f84.ok
def f103.l0 (n:Nat):Nat→Nat→List T→Nat→List T→Nat→List T→Nat→List T→Nat→List T→Nat→List T→Nat→List T→Int→Int→Option (Nat × List T × Nat × List T × Nat × List T × Nat × List T × Nat × List T × Nat × List T)
 | 0,_,_,_,_,_,_,_,_,_,_,_,_,_,_,_,_=>none
 | m+1,n1,l2,n3,l4,n5,l6,n7,l8,n9,l10,n11,l12,n13,l14,i15,i16 =>
   br (decide (i16<i15)) (
    gd ((decide ((0≤i16)∧(i16<(n13:Int))))&&(okAt [(CK.int .i64),(CK.int .i64),CK.lst] l14 (((Int.toNat i16) * 3)+0))) (
    let i17:=(iAt l14 (((Int.toNat i16) * 3)+0))
    let i18:=(iAt l14 ((((Int.toNat i16) * 3)+0)+1))
    let n19:=(nAt l14 (((((Int.toNat i16) * 3)+0)+1)+1))
    let l20:=(lAt l14 (((((Int.toNat i16) * 3)+0)+1)+1))
    bd (f84 n n19 l20) fun r21 =>
    let n22:=r21.1
    let l23:=r21.2
    gd (Nat.ble (n9+1) 2147483648) (
    let n24:=(n9+1)
    let l25:=(l10++(setN (reps 1 [(T.int .i64 (0:Int)),(T.int .i64 (0:Int)),(T.lst 0 [])]) 0 [(T.int .i64 i17),(T.int .i64 i18),(T.lst n22 l23)]))
    f103.l0 n m n1 l2 n3 l4 n5 l6 n7 l8 n24 l25 n11 l12 n13 l14 i15 (IntKind.i64.wrap (i16+(1:Int)))))) (
    some (n1,l2,n3,l4,n5,l6,n7,l8,n9,l10,n11,l12))
termination_by structural x=>x
def f78.l0 (n:Nat):Nat→Nat→List T→Nat→List T→Nat→List T→Int→Int→Option (Nat × List T)
 | 0,_,_,_,_,_,_,_,_=>none
 | m+1,n1,l2,n3,l4,n5,l6,i7,i8 =>
   br (decide (i8<i7)) (
    gd ((decide ((0≤i8)∧(i8<(n5:Int))))&&(okAt [(CK.int .i64),(CK.int .i64),CK.lst] l6 (((Int.toNat i8) * 3)+0))) (
    let i9:=(iAt l6 (((Int.toNat i8) * 3)+0))
    let i10:=(iAt l6 ((((Int.toNat i8) * 3)+0)+1))
    let n11:=(nAt l6 (((((Int.toNat i8) * 3)+0)+1)+1))
    let l12:=(lAt l6 (((((Int.toNat i8) * 3)+0)+1)+1))
    bd (f84 n n11 l12) fun r13 =>
    let n14:=r13.1
    let l15:=r13.2
    gd (Nat.ble (n3+1) 2147483648) (
    let n16:=(n3+1)
    let l17:=(l4++(setN (reps 1 [(T.int .i64 (0:Int)),(T.int .i64 (0:Int)),(T.lst 0 [])]) 0 [(T.int .i64 i9),(T.int .i64 i10),(T.lst n14 l15)]))
    f78.l0 n m n1 l2 n16 l17 n5 l6 i7 (IntKind.i64.wrap (i8+(1:Int)))))) (
    some (n3,l4))
def f78:Nat→Nat→List T→Option (Nat × List T)
 | 0,_,_=>none
 | n+1,n1,l2 =>
   bd (f78.l0 n n n1 l2 0 [] n1 l2 (n1:Int) (0:Int)) fun r3 =>
   let n4:=r3.1
   let l5:=r3.2
   some (n4,l5)
def f78.l0.P:AS:=⟨[(0,qS29),(3,qS30),(6,qS29),(7,qS34),(8,qS34)],0⟩
def f78.l0.A:Alt (Nat × List T):=.one (.exit 0) ⟨[(3,qS30)],0⟩ sg_l
def f78.l0.F (n m:Nat) (v:Nat × List T × Nat × List T × Nat × List T × Int × Int):=f78.l0 n m v.1 v.2.1 v.2.2.1 v.2.2.2.1 v.2.2.2.2.1 v.2.2.2.2.2.1 v.2.2.2.2.2.2.1 v.2.2.2.2.2.2.2
def f78.l0.W (n:Nat):LpW:=.of 48 f78.l0.P sg_lllii f78.l0.A (f78.l0.F n n)
def f78.P:List Arg:=[qA20]
def f78.A:RAlt (Nat × List T):=.one ⟨[qV10],[none]⟩ sg_l
def f78.F (n:Nat) (v:Nat × List T):=f78 n v.1 v.2
def f78.O (n:Nat):Orc:=orcOf (E:=E) [f84.w] [f78.l0.W n] n
theorem f78.l0.ok:∀ n,LpS 78 c78 0 n (f78.O n):=lpS f78.l0.P sg_lllii f78.l0.A f78.l0.F
theorem f78.ok:FnS 78 f78.P sg_l f78.A f78.F:=fnS c78 f78.O [loopAt c78 0] (fun n=>(.cons (f78.l0.ok n) .nil))
def f78.w:FnW E:=fnW 78 f78.P sg_l f78.A f78.F f78.ok
def f103.l1 (n:Nat):Nat→Nat→List T→Nat→List T→Nat→List T→Nat→List T→Nat→List T→Nat→List T→Nat→List T→Int→Int→Option (Nat × List T × Nat × List T × Nat × List T × Nat × List T)
 | 0,_,_,_,_,_,_,_,_,_,_,_,_,_,_,_,_=>none
 | m+1,n1,l2,n3,l4,n5,l6,n7,l8,n9,l10,n11,l12,n13,l14,i15,i16 =>
   br (decide (i16<i15)) (
    gd ((decide ((0≤i16)∧(i16<(n13:Int))))&&(okAt [CK.lst,(CK.int .i64),(CK.flt .f32),CK.bool,CK.bool] l14 (((Int.toNat i16) * 5)+0))) (
    let n17:=(nAt l14 (((Int.toNat i16) * 5)+0))
    let l18:=(lAt l14 (((Int.toNat i16) * 5)+0))
    let i19:=(iAt l14 ((((Int.toNat i16) * 5)+0)+1))
    let x20:=(fAt l14 (((((Int.toNat i16) * 5)+0)+1)+1))
    let b21:=(bAt l14 ((((((Int.toNat i16) * 5)+0)+1)+1)+1))
    let b22:=(bAt l14 (((((((Int.toNat i16) * 5)+0)+1)+1)+1)+1))
    bd (f78 n n17 l18) fun r23 =>
    let n24:=r23.1
    let l25:=r23.2
    gd (Nat.ble (n11+1) 2147483648) (
    let n26:=(n11+1)
    let l27:=(l12++(setN (reps 1 [(T.lst 0 []),(T.int .i64 (0:Int)),(T.flt .f32 0),(T.bool false),(T.bool false)]) 0 [(T.lst n24 l25),(T.int .i64 i19),(T.flt .f32 x20),(T.bool b21),(T.bool b22)]))
    f103.l1 n m n1 l2 n3 l4 n5 l6 n7 l8 n9 l10 n26 l27 n13 l14 i15 (IntKind.i64.wrap (i16+(1:Int)))))) (
    some (n5,l6,n7,l8,n9,l10,n11,l12))
termination_by structural x=>x
def f103:Nat→Nat→List T→Nat→List T→Option (Nat × List T × Nat × List T)
 | 0,_,_,_,_=>none
 | n+1,n1,l2,n3,l4 =>
   bd (f103.l0 n n n1 l2 n3 l4 0 [] 0 [] 0 [] 0 [] n1 l2 (n1:Int) (0:Int)) fun r5 =>
   let n6:=r5.1
   let l7:=r5.2.1
   let n8:=r5.2.2.1
   let l9:=r5.2.2.2.1
   let n10:=r5.2.2.2.2.1
   let l11:=r5.2.2.2.2.2.1
   let n12:=r5.2.2.2.2.2.2.1
   let l13:=r5.2.2.2.2.2.2.2.1
   let n14:=r5.2.2.2.2.2.2.2.2.1
   let l15:=r5.2.2.2.2.2.2.2.2.2.1
   let n16:=r5.2.2.2.2.2.2.2.2.2.2.1
   let l17:=r5.2.2.2.2.2.2.2.2.2.2.2
   bd (f103.l1 n n n6 l7 n8 l9 n10 l11 n12 l13 n14 l15 n16 l17 n8 l9 (n8:Int) (0:Int)) fun r18 =>
   let n23:=r18.2.2.2.2.1
   let l24:=r18.2.2.2.2.2.1
   let n25:=r18.2.2.2.2.2.2.1
   let l26:=r18.2.2.2.2.2.2.2
   some (n23,l24,n25,l26)
def f103.l0.P:AS:=⟨[(1,.box [.sl .shr [.leaf,.leaf,.sl .shr [.leaf]],.sl .shr [.sl .shr [.leaf,.leaf,.sl .shr [.leaf]],.leaf,.leaf,.leaf,.leaf]] [.lst 0 [],.lst 0 []] [] 0),(2,.box [.sl .own [.leaf,.leaf,.sl .own [.leaf]],.sl .own [.sl .own [.leaf,.leaf,.sl .own [.leaf]],.leaf,.leaf,.leaf,.leaf]] [.lst 0 [],.lst 0 []] [] 0),(3,.box [.sl .own [.leaf,.leaf,.sl .own [.leaf]],.sl .own [.sl .own [.leaf,.leaf,.sl .own [.leaf]],.leaf,.leaf,.leaf,.leaf]] [.lst 0 [],.lst 0 []] [] 0),(9,qS29),(10,qS34),(11,qS34)],0⟩
def f103.l0.A:Alt (Nat × List T × Nat × List T × Nat × List T × Nat × List T × Nat × List T × Nat × List T):=.one (.exit 0) ⟨[(1,.box [.sl .shr [.leaf,.leaf,.sl .shr [.leaf]],.sl .shr [.sl .shr [.leaf,.leaf,.sl .shr [.leaf]],.leaf,.leaf,.leaf,.leaf]] [.lst 0 [],.lst 0 []] [] 0),(2,.box [.sl .own [.leaf,.leaf,.sl .own [.leaf]],.sl .own [.sl .own [.leaf,.leaf,.sl .own [.leaf]],.leaf,.leaf,.leaf,.leaf]] [.lst 0 [],.lst 0 []] [] 0),(3,.box [.sl .own [.leaf,.leaf,.sl .own [.leaf]],.sl .own [.sl .own [.leaf,.leaf,.sl .own [.leaf]],.leaf,.leaf,.leaf,.leaf]] [.lst 0 [],.lst 0 []] [] 0),(43,.dead)],0⟩ sg_llllll
def f103.l0.F (n m:Nat) (v:Nat × List T × Nat × List T × Nat × List T × Nat × List T × Nat × List T × Nat × List T × Nat × List T × Int × Int):=f103.l0 n m v.1 v.2.1 v.2.2.1 v.2.2.2.1 v.2.2.2.2.1 v.2.2.2.2.2.1 v.2.2.2.2.2.2.1 v.2.2.2.2.2.2.2.1 v.2.2.2.2.2.2.2.2.1 v.2.2.2.2.2.2.2.2.2.1 v.2.2.2.2.2.2.2.2.2.2.1 v.2.2.2.2.2.2.2.2.2.2.2.1 v.2.2.2.2.2.2.2.2.2.2.2.2.1 v.2.2.2.2.2.2.2.2.2.2.2.2.2.1 v.2.2.2.2.2.2.2.2.2.2.2.2.2.2.1 v.2.2.2.2.2.2.2.2.2.2.2.2.2.2.2
def f103.l0.W (n:Nat):LpW:=.of 48 f103.l0.P sg_lllllllii f103.l0.A (f103.l0.F n n)
def f103.l1.P:AS:=⟨[(1,.box [.sl .shr [.leaf,.leaf,.sl .shr [.leaf]],.sl .shr [.sl .shr [.leaf,.leaf,.sl .shr [.leaf]],.leaf,.leaf,.leaf,.leaf]] [.lst 0 [],.lst 0 []] [] 0),(2,.box [.sl .own [.leaf,.leaf,.sl .own [.leaf]],.sl .own [.sl .own [.leaf,.leaf,.sl .own [.leaf]],.leaf,.leaf,.leaf,.leaf]] [.lst 0 [],.lst 0 []] [] 0),(3,.box [.sl .own [.leaf,.leaf,.sl .own [.leaf]],.sl .own [.sl .own [.leaf,.leaf,.sl .own [.leaf]],.leaf,.leaf,.leaf,.leaf]] [.lst 0 [],.lst 0 []] [] 0),(27,qS27),(28,qS34),(29,qS34)],0⟩
def f103.l1.A:Alt (Nat × List T × Nat × List T × Nat × List T × Nat × List T):=.one (.exit 2) ⟨[(2,.box [.sl .own [.leaf,.leaf,.sl .own [.leaf]],.sl .own [.sl .own [.leaf,.leaf,.sl .own [.leaf]],.leaf,.leaf,.leaf,.leaf]] [.lst 0 [],.lst 0 []] [] 0),(3,.box [.sl .own [.leaf,.leaf,.sl .own [.leaf]],.sl .own [.sl .own [.leaf,.leaf,.sl .own [.leaf]],.leaf,.leaf,.leaf,.leaf]] [.lst 0 [],.lst 0 []] [] 0)],0⟩ sg_llll
def f103.l1.F (n m:Nat) (v:Nat × List T × Nat × List T × Nat × List T × Nat × List T × Nat × List T × Nat × List T × Nat × List T × Int × Int):=f103.l1 n m v.1 v.2.1 v.2.2.1 v.2.2.2.1 v.2.2.2.2.1 v.2.2.2.2.2.1 v.2.2.2.2.2.2.1 v.2.2.2.2.2.2.2.1 v.2.2.2.2.2.2.2.2.1 v.2.2.2.2.2.2.2.2.2.1 v.2.2.2.2.2.2.2.2.2.2.1 v.2.2.2.2.2.2.2.2.2.2.2.1 v.2.2.2.2.2.2.2.2.2.2.2.2.1 v.2.2.2.2.2.2.2.2.2.2.2.2.2.1 v.2.2.2.2.2.2.2.2.2.2.2.2.2.2.1 v.2.2.2.2.2.2.2.2.2.2.2.2.2.2.2
def f103.l1.W (n:Nat):LpW:=.of 144 f103.l1.P sg_lllllllii f103.l1.A (f103.l1.F n n)
def f103.P:List Arg:=[qA23]
def f103.A:RAlt (Nat × List T × Nat × List T):=.one ⟨[qV2],[none]⟩ sg_ll
def f103.F (n:Nat) (v:Nat × List T × Nat × List T):=f103 n v.1 v.2.1 v.2.2.1 v.2.2.2
def f103.O (n:Nat):Orc:=orcOf (E:=E) [f84.w,f78.w] [f103.l0.W n,f103.l1.W n] n
theorem f103.l0.ok:∀ n,LpS 103 c103 0 n (f103.O n):=lpS f103.l0.P sg_lllllllii f103.l0.A f103.l0.F
theorem f103.l1.ok:∀ n,LpS 103 c103 1 n (f103.O n):=lpS f103.l1.P sg_lllllllii f103.l1.A f103.l1.F
theorem f103.ok:FnS 103 f103.P sg_ll f103.A f103.F:=fnS c103 f103.O [loopAt c103 0,loopAt c103 1] (fun n=>(.cons (f103.l0.ok n) (.cons (f103.l1.ok n) .nil)))
def f103.w:FnW E:=fnW 103 f103.P sg_ll f103.A f103.F f103.ok
def f127.l0 (n:Nat):Nat→Nat→List T→Nat→List T→Nat→List T→Nat→List T→Nat→List T→Int→Int→Option (Nat × List T × Nat × List T)
 | 0,_,_,_,_,_,_,_,_,_,_,_,_=>none
 | m+1,n1,l2,n3,l4,n5,l6,n7,l8,n9,l10,i11,i12 =>
   br (decide (i12<i11)) (
    gd ((decide ((0≤i12)∧(i12<(n9:Int))))&&(okAt [CK.lst,(CK.int .i64),(CK.flt .f32),CK.bool,CK.bool] l10 (((Int.toNat i12) * 5)+0))) (
    let n13:=(nAt l10 (((Int.toNat i12) * 5)+0))
    let l14:=(lAt l10 (((Int.toNat i12) * 5)+0))
    let i15:=(iAt l10 ((((Int.toNat i12) * 5)+0)+1))
    let x16:=(fAt l10 (((((Int.toNat i12) * 5)+0)+1)+1))
    let b17:=(bAt l10 ((((((Int.toNat i12) * 5)+0)+1)+1)+1))
    let b18:=(bAt l10 (((((((Int.toNat i12) * 5)+0)+1)+1)+1)+1))
    gd (Nat.ble (n5+1) 2147483648) (
    gd (Nat.ble (n7+1) 2147483648) (
    let n19:=(n5+1)
    let l20:=(l6++(setN (reps 1 [(T.bool false)]) 0 [(T.bool b17)]))
    let n21:=(n7+1)
    let l22:=(l8++(setN (reps 1 [(T.bool false)]) 0 [(T.bool b18)]))
    f127.l0 n m n1 l2 n3 l4 n19 l20 n21 l22 n9 l10 i11 (IntKind.i64.wrap (i12+(1:Int))))))) (
    some (n5,l6,n7,l8))
termination_by structural x=>x
def f199.l0 (n:Nat):Nat→Nat→List T→Bool→Int→Int→Option ((Int) ⊕ (Unit))
 | 0,_,_,_,_,_=>none
 | m+1,n1,l2,b3,i4,i5 =>
   br (decide (i5<i4)) (
    gd ((decide ((0≤i5)∧(i5<(n1:Int))))&&(okAt [CK.bool] l2 (Int.toNat i5))) (
    br (b3==(bAt l2 (Int.toNat i5))) (
     some (Sum.inl i5)) (
     f199.l0 n m n1 l2 b3 i4 (IntKind.i64.wrap (i5+(1:Int)))))) (
    some (Sum.inr ()))
def f199:Nat→Nat→List T→Bool→Option (Int)
 | 0,_,_,_=>none
 | n+1,n1,l2,b3 =>
   bd (f199.l0 n n n1 l2 b3 (n1:Int) (0:Int)) fun r4 =>
   sm r4 (fun u5 =>
    let i6:=u5
    some i6) (fun u7 =>
    some (-1:Int))
def f199.l0.P:AS:=⟨[(0,qS32),(1,qS35),(7,qS34),(8,qS34)],0⟩
def f199.l0.A:Alt ((Int) ⊕ (Unit)):=.or (.one .ret ⟨[(4,qS34)],0⟩ sg_i) (.one (.exit 0) ⟨[(4,.dead)],0⟩ sg)
def f199.l0.F (n m:Nat) (v:Nat × List T × Bool × Int × Int):=f199.l0 n m v.1 v.2.1 v.2.2.1 v.2.2.2.1 v.2.2.2.2
def f199.l0.W (n:Nat):LpW:=.of 32 f199.l0.P sg_lbii f199.l0.A (f199.l0.F n n)
def f199.P:List Arg:=[qA16,⟨.val,qV14⟩]
def f199.A:RAlt (Int):=.one ⟨[qV13],[none,none]⟩ sg_i
def f199.F (n:Nat) (v:Nat × List T × Bool):=f199 n v.1 v.2.1 v.2.2
def f199.O (n:Nat):Orc:=orcOf (E:=E) [] [f199.l0.W n] n
theorem f199.l0.ok:∀ n,LpS 199 c199 0 n (f199.O n):=lpS f199.l0.P sg_lbii f199.l0.A f199.l0.F
theorem f199.ok:FnS 199 f199.P sg_lb f199.A f199.F:=fnS c199 f199.O [loopAt c199 0] (fun n=>(.cons (f199.l0.ok n) .nil))
def f199.w:FnW E:=fnW 199 f199.P sg_lb f199.A f199.F f199.ok
def f187:Nat→Nat→List T→Bool→Option (Bool)
 | 0,_,_,_=>none
 | n+1,n1,l2,b3 =>
   bd (f199 n n1 l2 b3) fun r4 =>
   let i5:=r4
   some (decide (i5≥(0:Int)))
def f187.P:List Arg:=[qA16,⟨.val,qV14⟩]
def f187.A:RAlt (Bool):=.one ⟨[qV14],[none,none]⟩ sg_b
def f187.F (n:Nat) (v:Nat × List T × Bool):=f187 n v.1 v.2.1 v.2.2
def f187.O (n:Nat):Orc:=orcOf (E:=E) [f199.w] [] n
theorem f187.ok:FnS 187 f187.P sg_lb f187.A f187.F:=fnS c187 f187.O
def f187.w:FnW E:=fnW 187 f187.P sg_lb f187.A f187.F f187.ok
def f163.l0 (n:Nat):Nat→Nat→List T→Nat→List T→Bool→Nat→List T→Nat→List T→Int→Int→Option (Nat × List T)
 | 0,_,_,_,_,_,_,_,_,_,_,_=>none
 | m+1,n1,l2,n3,l4,b5,n6,l7,n8,l9,i10,i11 =>
   br (decide (i11<i10)) (
    gd ((decide ((0≤i11)∧(i11<(n8:Int))))&&(okAt [CK.bool] l9 (Int.toNat i11))) (
    let b12:=(bAt l9 (Int.toNat i11))
    br (!b12) (
     gd ((decide ((0≤i11)∧(i11<(n3:Int))))&&(okAt [CK.bool] l4 (Int.toNat i11))) (
     br (bAt l4 (Int.toNat i11)) (
      gd (Nat.ble (n6+1) 2147483648) (
      let n13:=(n6+1)
      let l14:=(l7++(setN (reps 1 [(T.bool false)]) 0 [(T.bool true)]))
      f163.l0 n m n1 l2 n3 l4 b5 n13 l14 n8 l9 i10 (IntKind.i64.wrap (i11+(1:Int))))) (
      gd (Nat.ble (n6+1) 2147483648) (
      let n15:=(n6+1)
      let l16:=(l7++(setN (reps 1 [(T.bool false)]) 0 [(T.bool (!b5))]))
      f163.l0 n m n1 l2 n3 l4 b5 n15 l16 n8 l9 i10 (IntKind.i64.wrap (i11+(1:Int))))))) (
     gd (Nat.ble (n6+1) 2147483648) (
     let n17:=(n6+1)
     let l18:=(l7++(setN (reps 1 [(T.bool false)]) 0 [(T.bool false)]))
     f163.l0 n m n1 l2 n3 l4 b5 n17 l18 n8 l9 i10 (IntKind.i64.wrap (i11+(1:Int))))))) (
    some (n6,l7))
def f163:Nat→Nat→List T→Nat→List T→Option (Nat × List T)
 | 0,_,_,_,_=>none
 | n+1,n1,l2,n3,l4 =>
   bd (f187 n n3 l4 true) fun r5 =>
   let b6:=r5
   bd (f163.l0 n n n1 l2 n3 l4 b6 0 [] n1 l2 (n1:Int) (0:Int)) fun r7 =>
   let n8:=r7.1
   let l9:=r7.2
   some (n8,l9)
def sg_llbllii:Sig (Nat × List T × Nat × List T × Bool × Nat × List T × Nat × List T × Int × Int) where
 pk:=fun v=>[.lst v.1 v.2.1,.lst v.2.2.1 v.2.2.2.1,.bool v.2.2.2.2.1,.lst v.2.2.2.2.2.1 v.2.2.2.2.2.2.1,.lst v.2.2.2.2.2.2.2.1 v.2.2.2.2.2.2.2.2.1,.int v.2.2.2.2.2.2.2.2.2.1,.int v.2.2.2.2.2.2.2.2.2.2]
 up:=fun ls=>match ls with
  | [.lst a0 a1,.lst a2 a3,.bool a4,.lst a5 a6,.lst a7 a8,.int a9,.int a10]=>some (a0,a1,a2,a3,a4,a5,a6,a7,a8,a9,a10)
  | _=>none
 ok:=by intro _ _ h;split at h <;>cases h;rfl
def f163.l0.P:AS:=⟨[(0,qS32),(1,qS32),(5,qS35),(6,qS33),(11,qS32),(12,qS34),(13,qS34)],0⟩
def f163.l0.A:Alt (Nat × List T):=.one (.exit 0) ⟨[(6,qS33)],0⟩ sg_l
def f163.l0.F (n m:Nat) (v:Nat × List T × Nat × List T × Bool × Nat × List T × Nat × List T × Int × Int):=f163.l0 n m v.1 v.2.1 v.2.2.1 v.2.2.2.1 v.2.2.2.2.1 v.2.2.2.2.2.1 v.2.2.2.2.2.2.1 v.2.2.2.2.2.2.2.1 v.2.2.2.2.2.2.2.2.1 v.2.2.2.2.2.2.2.2.2.1 v.2.2.2.2.2.2.2.2.2.2
def f163.l0.W (n:Nat):LpW:=.of 64 f163.l0.P sg_llbllii f163.l0.A (f163.l0.F n n)
def f163.P:List Arg:=[qA16,qA16]
def f163.A:RAlt (Nat × List T):=.one ⟨[qV12],[none,none]⟩ sg_l
def f163.F (n:Nat) (v:Nat × List T × Nat × List T):=f163 n v.1 v.2.1 v.2.2.1 v.2.2.2
def f163.O (n:Nat):Orc:=orcOf (E:=E) [f187.w] [f163.l0.W n] n
theorem f163.l0.ok:∀ n,LpS 163 c163 0 n (f163.O n):=lpS f163.l0.P sg_llbllii f163.l0.A f163.l0.F
theorem f163.ok:FnS 163 f163.P sg_ll f163.A f163.F:=fnS c163 f163.O [loopAt c163 0] (fun n=>(.cons (f163.l0.ok n) .nil))
def f163.w:FnW E:=fnW 163 f163.P sg_ll f163.A f163.F f163.ok
def f127:Nat→Nat→List T→Nat→List T→Option (Nat × List T)
 | 0,_,_,_,_=>none
 | n+1,n1,l2,n3,l4 =>
   bd (f127.l0 n n n1 l2 n3 l4 0 [] 0 [] n3 l4 (n3:Int) (0:Int)) fun r5 =>
   let n6:=r5.1
   let l7:=r5.2.1
   let n8:=r5.2.2.1
   let l9:=r5.2.2.2
   bd (f163 n n6 l7 n8 l9) fun r10 =>
   let n11:=r10.1
   let l12:=r10.2
   some (n11,l12)
def sg_lllllii:Sig (Nat × List T × Nat × List T × Nat × List T × Nat × List T × Nat × List T × Int × Int) where
 pk:=fun v=>[.lst v.1 v.2.1,.lst v.2.2.1 v.2.2.2.1,.lst v.2.2.2.2.1 v.2.2.2.2.2.1,.lst v.2.2.2.2.2.2.1 v.2.2.2.2.2.2.2.1,.lst v.2.2.2.2.2.2.2.2.1 v.2.2.2.2.2.2.2.2.2.1,.int v.2.2.2.2.2.2.2.2.2.2.1,.int v.2.2.2.2.2.2.2.2.2.2.2]
 up:=fun ls=>match ls with
  | [.lst a0 a1,.lst a2 a3,.lst a4 a5,.lst a6 a7,.lst a8 a9,.int a10,.int a11]=>some (a0,a1,a2,a3,a4,a5,a6,a7,a8,a9,a10,a11)
  | _=>none
 ok:=by intro _ _ h;split at h <;>cases h;rfl
def f127.l0.P:AS:=⟨[(1,.box [.sl .shr [.leaf,.leaf,.sl .shr [.leaf]],.sl .shr [.sl .shr [.leaf,.leaf,.sl .shr [.leaf]],.leaf,.leaf,.leaf,.leaf]] [.lst 0 [],.lst 0 []] [] 0),(3,qS33),(4,qS33),(8,qS27),(9,qS34),(10,qS34)],0⟩
def f127.l0.A:Alt (Nat × List T × Nat × List T):=.one (.exit 0) ⟨[(3,qS33),(4,qS33)],0⟩ sg_ll
def f127.l0.F (n m:Nat) (v:Nat × List T × Nat × List T × Nat × List T × Nat × List T × Nat × List T × Int × Int):=f127.l0 n m v.1 v.2.1 v.2.2.1 v.2.2.2.1 v.2.2.2.2.1 v.2.2.2.2.2.1 v.2.2.2.2.2.2.1 v.2.2.2.2.2.2.2.1 v.2.2.2.2.2.2.2.2.1 v.2.2.2.2.2.2.2.2.2.1 v.2.2.2.2.2.2.2.2.2.2.1 v.2.2.2.2.2.2.2.2.2.2.2
def f127.l0.W (n:Nat):LpW:=.of 48 f127.l0.P sg_lllllii f127.l0.A (f127.l0.F n n)
def f127.P:List Arg:=[qA23]
def f127.A:RAlt (Nat × List T):=.one ⟨[qV12],[none]⟩ sg_l
def f127.F (n:Nat) (v:Nat × List T × Nat × List T):=f127 n v.1 v.2.1 v.2.2.1 v.2.2.2
def f127.O (n:Nat):Orc:=orcOf (E:=E) [f163.w] [f127.l0.W n] n
theorem f127.l0.ok:∀ n,LpS 127 c127 0 n (f127.O n):=lpS f127.l0.P sg_lllllii f127.l0.A f127.l0.F
theorem f127.ok:FnS 127 f127.P sg_ll f127.A f127.F:=fnS c127 f127.O [loopAt c127 0] (fun n=>(.cons (f127.l0.ok n) .nil))
def f127.w:FnW E:=fnW 127 f127.P sg_ll f127.A f127.F f127.ok
def f102:Nat→Int→Int→Nat→List T→Option (Int)
 | 0,_,_,_,_=>none
 | n+1,i1,i2,n3,l4 =>
   bd (f87 n (n3:Int)) fun r5 =>
   let i6:=r5
   some (IntKind.i64.wrap (i2+i6))
def f102.P:List Arg:=[qA19]
def f102.A:RAlt (Int):=.one ⟨[qV13],[none]⟩ sg_i
def f102.F (n:Nat) (v:Int × Int × Nat × List T):=f102 n v.1 v.2.1 v.2.2.1 v.2.2.2
def f102.O (n:Nat):Orc:=orcOf (E:=E) [f87.w] [] n
theorem f102.ok:FnS 102 f102.P sg_iil f102.A f102.F:=fnS c102 f102.O
def f102.w:FnW E:=fnW 102 f102.P sg_iil f102.A f102.F f102.ok
def f63.l1 (n:Nat):Nat→Nat→List T→Nat→List T→Nat→List T→Nat→List T→Nat→List T→Nat→List T→Int→Int→Int→Nat→List T→Int→Int→Nat→List T→Int→Int→Option (Nat × List T × Nat × List T × Nat × List T × Nat × List T × Nat × List T × Nat × List T × Int × Int × Int × Nat × List T × Int × Int)
 | 0,_,_,_,_,_,_,_,_,_,_,_,_,_,_,_,_,_,_,_,_,_,_,_=>none
 | m+1,n1,l2,n3,l4,n5,l6,n7,l8,n9,l10,n11,l12,i13,i14,i15,n16,l17,i18,i19,n20,l21,i22,i23 =>
   br (decide (i23<i22)) (
    gd ((decide ((0≤i23)∧(i23<(n20:Int))))&&(okAt [(CK.int .i64),(CK.int .i64),CK.lst] l21 (((Int.toNat i23) * 3)+0))) (
    let i24:=(iAt l21 (((Int.toNat i23) * 3)+0))
    let i25:=(iAt l21 ((((Int.toNat i23) * 3)+0)+1))
    let n26:=(nAt l21 (((((Int.toNat i23) * 3)+0)+1)+1))
    let l27:=(lAt l21 (((((Int.toNat i23) * 3)+0)+1)+1))
    br (i24 != i13) (
     f63.l1 n m n1 l2 n3 l4 n5 l6 n7 l8 n9 l10 n11 l12 i13 i14 i15 n16 l17 i18 i19 n20 l21 i22 (IntKind.i64.wrap (i23+(1:Int)))) (
     br (decide (i14<(0:Int))) (
      bd (f102 n i24 i25 n26 l27) fun r28 =>
      let i29:=r28
      let i30:=(if (i29>i15) then i29 else i15)
      f63.l1 n m n1 l2 n3 l4 n5 l6 n7 l8 n9 l10 n11 l12 i13 i25 i30 n16 l17 i18 i19 n20 l21 i22 (IntKind.i64.wrap (i23+(1:Int)))) (
      br (decide (i25<i14)) (
       bd (f102 n i24 i25 n26 l27) fun r31 =>
       let i32:=r31
       let i33:=(if (i32>i15) then i32 else i15)
       f63.l1 n m n1 l2 n3 l4 n5 l6 n7 l8 n9 l10 n11 l12 i13 i25 i33 n16 l17 i18 i19 n20 l21 i22 (IntKind.i64.wrap (i23+(1:Int)))) (
       bd (f102 n i24 i25 n26 l27) fun r34 =>
       let i35:=r34
       let i36:=(if (i35>i15) then i35 else i15)
       f63.l1 n m n1 l2 n3 l4 n5 l6 n7 l8 n9 l10 n11 l12 i13 i14 i36 n16 l17 i18 i19 n20 l21 i22 (IntKind.i64.wrap (i23+(1:Int)))))))) (
    some (n1,l2,n3,l4,n5,l6,n7,l8,n9,l10,n11,l12,i13,i14,i15,n16,l17,i18,i19))
termination_by structural x=>x
def f91:Nat→Int→Option (Nat × List T)
 | 0,_=>none
 | n+1,i1 =>
   gd (decide ((0≤i1)∧(i1≤(2147483648:Int)))) (
   some ((Int.toNat i1),(reps (Int.toNat i1) [(T.flt .f32 0)])))
def f91.P:List Arg:=[qA17]
def f91.A:RAlt (Nat × List T):=.one ⟨[qV12],[none]⟩ sg_l
def f91.F (n:Nat) (v:Int):=f91 n v
def f91.O (n:Nat):Orc:=orcOf (E:=E) [] [] n
theorem f91.ok:FnS 91 f91.P sg_i f91.A f91.F:=fnS c91 f91.O
def f91.w:FnW E:=fnW 91 f91.P sg_i f91.A f91.F f91.ok
def f100.l1 (n:Nat):Nat→Int→Int→Int→Nat→List T→Nat→List T→Nat→List T→Int→Int→Nat→List T→Nat→List T→Int→Int→Nat→List T→Int→Int→Option (Int × Int × Int × Nat × List T × Nat × List T × Nat × List T × Nat × List T × Int × Int)
 | 0,_,_,_,_,_,_,_,_,_,_,_,_,_,_,_,_,_,_,_,_,_=>none
 | m+1,i1,i2,i3,n4,l5,n6,l7,n8,l9,i10,i11,n12,l13,n14,l15,i16,i17,n18,l19,i20,i21 =>
   br (decide (i21<i20)) (
    gd ((decide ((0≤i21)∧(i21<(n18:Int))))&&(okAt [(CK.flt .f32)] l19 (Int.toNat i21))) (
    let x22:=(fAt l19 (Int.toNat i21))
    let i23:=(IntKind.i64.wrap ((IntKind.i64.wrap (i11+i21)) - i2))
    bd (f67 n i23 (0:Int) (IntKind.i64.wrap (i3 - (1:Int)))) fun r24 =>
    let b25:=r24
    br b25 (
     gd (decide ((0≤i23)∧(i23<(n8:Int)))) (
     gd (okAt [(CK.flt .f32)] l9 (Int.toNat i23)) (
     gd (decide ((0≤i23)∧(i23<(n8:Int)))) (
     gd (Nat.ble ((Int.toNat i23)+1) (List.length l9)) (
     let l26:=(setN l9 (Int.toNat i23) [(T.flt .f32 (fadd .f32 (fAt l9 (Int.toNat i23)) x22))])
     f100.l1 n m i1 i2 i3 n4 l5 n6 l7 n8 l26 i10 i11 n12 l13 n14 l15 i16 i17 n18 l19 i20 (IntKind.i64.wrap (i21+(1:Int)))))))) (
     f100.l1 n m i1 i2 i3 n4 l5 n6 l7 n8 l9 i10 i11 n12 l13 n14 l15 i16 i17 n18 l19 i20 (IntKind.i64.wrap (i21+(1:Int)))))) (
    some (i1,i2,i3,n4,l5,n6,l7,n8,l9,n14,l15,i16,i17))
termination_by structural x=>x
def f100.l0 (n:Nat):Nat→Int→Int→Int→Nat→List T→Nat→List T→Nat→List T→Nat→List T→Int→Int→Option (Nat × List T)
 | 0,_,_,_,_,_,_,_,_,_,_,_,_,_=>none
 | m+1,i1,i2,i3,n4,l5,n6,l7,n8,l9,n10,l11,i12,i13 =>
   br (decide (i13<i12)) (
    gd ((decide ((0≤i13)∧(i13<(n10:Int))))&&(okAt [(CK.int .i64),(CK.int .i64),CK.lst] l11 (((Int.toNat i13) * 3)+0))) (
    let i14:=(iAt l11 (((Int.toNat i13) * 3)+0))
    let i15:=(iAt l11 ((((Int.toNat i13) * 3)+0)+1))
    let n16:=(nAt l11 (((((Int.toNat i13) * 3)+0)+1)+1))
    let l17:=(lAt l11 (((((Int.toNat i13) * 3)+0)+1)+1))
    br (i14 != i1) (
     f100.l0 n m i1 i2 i3 n4 l5 n6 l7 n8 l9 n10 l11 i12 (IntKind.i64.wrap (i13+(1:Int)))) (
     bd (f100.l1 n n i1 i2 i3 n4 l5 n6 l7 n8 l9 i14 i15 n16 l17 n10 l11 i12 i13 n16 l17 (n16:Int) (0:Int)) fun r18 =>
     let i19:=r18.1
     let i20:=r18.2.1
     let i21:=r18.2.2.1
     let n22:=r18.2.2.2.1
     let l23:=r18.2.2.2.2.1
     let n24:=r18.2.2.2.2.2.1
     let l25:=r18.2.2.2.2.2.2.1
     let n26:=r18.2.2.2.2.2.2.2.1
     let l27:=r18.2.2.2.2.2.2.2.2.1
     let n28:=r18.2.2.2.2.2.2.2.2.2.1
     let l29:=r18.2.2.2.2.2.2.2.2.2.2.1
     let i30:=r18.2.2.2.2.2.2.2.2.2.2.2.1
     let i31:=r18.2.2.2.2.2.2.2.2.2.2.2.2
     f100.l0 n m i19 i20 i21 n22 l23 n24 l25 n26 l27 n28 l29 i30 (IntKind.i64.wrap (i31+(1:Int)))))) (
    some (n8,l9))
termination_by structural x=>x
def f100:Nat→Nat→List T→Nat→List T→Int→Int→Int→Option (Nat × List T)
 | 0,_,_,_,_,_,_,_=>none
 | n+1,n1,l2,n3,l4,i5,i6,i7 =>
   bd (f91 n i7) fun r8 =>
   let n9:=r8.1
   let l10:=r8.2
   bd (f100.l0 n n i5 i6 i7 n1 l2 n3 l4 n9 l10 n1 l2 (n1:Int) (0:Int)) fun r11 =>
   let n12:=r11.1
   let l13:=r11.2
   some (n12,l13)
def sg_iiillliilliilii:Sig (Int × Int × Int × Nat × List T × Nat × List T × Nat × List T × Int × Int × Nat × List T × Nat × List T × Int × Int × Nat × List T × Int × Int) where
 pk:=fun v=>[.int v.1,.int v.2.1,.int v.2.2.1,.lst v.2.2.2.1 v.2.2.2.2.1,.lst v.2.2.2.2.2.1 v.2.2.2.2.2.2.1,.lst v.2.2.2.2.2.2.2.1 v.2.2.2.2.2.2.2.2.1,.int v.2.2.2.2.2.2.2.2.2.1,.int v.2.2.2.2.2.2.2.2.2.2.1,.lst v.2.2.2.2.2.2.2.2.2.2.2.1 v.2.2.2.2.2.2.2.2.2.2.2.2.1,.lst v.2.2.2.2.2.2.2.2.2.2.2.2.2.1 v.2.2.2.2.2.2.2.2.2.2.2.2.2.2.1,.int v.2.2.2.2.2.2.2.2.2.2.2.2.2.2.2.1,.int v.2.2.2.2.2.2.2.2.2.2.2.2.2.2.2.2.1,.lst v.2.2.2.2.2.2.2.2.2.2.2.2.2.2.2.2.2.1 v.2.2.2.2.2.2.2.2.2.2.2.2.2.2.2.2.2.2.1,.int v.2.2.2.2.2.2.2.2.2.2.2.2.2.2.2.2.2.2.2.1,.int v.2.2.2.2.2.2.2.2.2.2.2.2.2.2.2.2.2.2.2.2]
 up:=fun ls=>match ls with
  | [.int a0,.int a1,.int a2,.lst a3 a4,.lst a5 a6,.lst a7 a8,.int a9,.int a10,.lst a11 a12,.lst a13 a14,.int a15,.int a16,.lst a17 a18,.int a19,.int a20]=>some (a0,a1,a2,a3,a4,a5,a6,a7,a8,a9,a10,a11,a12,a13,a14,a15,a16,a17,a18,a19,a20)
  | _=>none
 ok:=by intro _ _ h;split at h <;>cases h;rfl
def sg_iiillllii:Sig (Int × Int × Int × Nat × List T × Nat × List T × Nat × List T × Nat × List T × Int × Int) where
 pk:=fun v=>[.int v.1,.int v.2.1,.int v.2.2.1,.lst v.2.2.2.1 v.2.2.2.2.1,.lst v.2.2.2.2.2.1 v.2.2.2.2.2.2.1,.lst v.2.2.2.2.2.2.2.1 v.2.2.2.2.2.2.2.2.1,.lst v.2.2.2.2.2.2.2.2.2.1 v.2.2.2.2.2.2.2.2.2.2.1,.int v.2.2.2.2.2.2.2.2.2.2.2.1,.int v.2.2.2.2.2.2.2.2.2.2.2.2]
 up:=fun ls=>match ls with
  | [.int a0,.int a1,.int a2,.lst a3 a4,.lst a5 a6,.lst a7 a8,.lst a9 a10,.int a11,.int a12]=>some (a0,a1,a2,a3,a4,a5,a6,a7,a8,a9,a10,a11,a12)
  | _=>none
 ok:=by intro _ _ h;split at h <;>cases h;rfl
def f100.l1.P:AS:=⟨[(1,qS34),(2,qS34),(3,qS34),(4,.box [.sl .shr [.leaf,.leaf,.sl .shr [.leaf]],.sl .shr [.sl .shr [.leaf,.leaf,.sl .shr [.leaf]],.leaf,.leaf,.leaf,.leaf]] [.lst 0 [],.lst 0 []] [] 0),(9,qS33),(11,.box [.leaf,.leaf,.sl .shr [.leaf]] [.int .i64 0,.int .i64 0,.lst 0 []] [] 0),(18,qS29),(19,qS34),(20,qS34),(29,qS32),(30,qS34),(31,qS34)],0⟩
def f100.l1.A:Alt (Int × Int × Int × Nat × List T × Nat × List T × Nat × List T × Nat × List T × Int × Int):=.one (.exit 2) ⟨[(1,qS34),(2,qS34),(3,qS34),(4,.box [.sl .shr [.leaf,.leaf,.sl .shr [.leaf]],.sl .shr [.sl .shr [.leaf,.leaf,.sl .shr [.leaf]],.leaf,.leaf,.leaf,.leaf]] [.lst 0 [],.lst 0 []] [] 0),(9,qS33),(18,qS29),(19,qS34),(20,qS34),(53,.dead),(54,.dead)],0⟩ sg_iiillllii
def f100.l1.F (n m:Nat) (v:Int × Int × Int × Nat × List T × Nat × List T × Nat × List T × Int × Int × Nat × List T × Nat × List T × Int × Int × Nat × List T × Int × Int):=f100.l1 n m v.1 v.2.1 v.2.2.1 v.2.2.2.1 v.2.2.2.2.1 v.2.2.2.2.2.1 v.2.2.2.2.2.2.1 v.2.2.2.2.2.2.2.1 v.2.2.2.2.2.2.2.2.1 v.2.2.2.2.2.2.2.2.2.1 v.2.2.2.2.2.2.2.2.2.2.1 v.2.2.2.2.2.2.2.2.2.2.2.1 v.2.2.2.2.2.2.2.2.2.2.2.2.1 v.2.2.2.2.2.2.2.2.2.2.2.2.2.1 v.2.2.2.2.2.2.2.2.2.2.2.2.2.2.1 v.2.2.2.2.2.2.2.2.2.2.2.2.2.2.2.1 v.2.2.2.2.2.2.2.2.2.2.2.2.2.2.2.2.1 v.2.2.2.2.2.2.2.2.2.2.2.2.2.2.2.2.2.1 v.2.2.2.2.2.2.2.2.2.2.2.2.2.2.2.2.2.2.1 v.2.2.2.2.2.2.2.2.2.2.2.2.2.2.2.2.2.2.2.1 v.2.2.2.2.2.2.2.2.2.2.2.2.2.2.2.2.2.2.2.2
def f100.l1.W (n:Nat):LpW:=.of 112 f100.l1.P sg_iiillliilliilii f100.l1.A (f100.l1.F n n)
def f100.l0.P:AS:=⟨[(1,qS34),(2,qS34),(3,qS34),(4,.box [.sl .shr [.leaf,.leaf,.sl .shr [.leaf]],.sl .shr [.sl .shr [.leaf,.leaf,.sl .shr [.leaf]],.leaf,.leaf,.leaf,.leaf]] [.lst 0 [],.lst 0 []] [] 0),(9,qS33),(18,qS29),(19,qS34),(20,qS34)],0⟩
def f100.l0.A:Alt (Nat × List T):=.one (.exit 0) ⟨[(9,qS33)],0⟩ sg_l
def f100.l0.F (n m:Nat) (v:Int × Int × Int × Nat × List T × Nat × List T × Nat × List T × Nat × List T × Int × Int):=f100.l0 n m v.1 v.2.1 v.2.2.1 v.2.2.2.1 v.2.2.2.2.1 v.2.2.2.2.2.1 v.2.2.2.2.2.2.1 v.2.2.2.2.2.2.2.1 v.2.2.2.2.2.2.2.2.1 v.2.2.2.2.2.2.2.2.2.1 v.2.2.2.2.2.2.2.2.2.2.1 v.2.2.2.2.2.2.2.2.2.2.2.1 v.2.2.2.2.2.2.2.2.2.2.2.2
def f100.l0.W (n:Nat):LpW:=.of 48 f100.l0.P sg_iiillllii f100.l0.A (f100.l0.F n n)
def f100.P:List Arg:=[qA23,qA17,qA17,qA17]
def f100.A:RAlt (Nat × List T):=.one ⟨[qV12],[none,none,none,none]⟩ sg_l
def f100.F (n:Nat) (v:Nat × List T × Nat × List T × Int × Int × Int):=f100 n v.1 v.2.1 v.2.2.1 v.2.2.2.1 v.2.2.2.2.1 v.2.2.2.2.2.1 v.2.2.2.2.2.2
def f100.O (n:Nat):Orc:=orcOf (E:=E) [f67.w,f91.w] [f100.l1.W n,f100.l0.W n] n
theorem f100.l1.ok:∀ n,LpS 100 c100 1 n (f100.O n):=lpS f100.l1.P sg_iiillliilliilii f100.l1.A f100.l1.F
theorem f100.l0.ok:∀ n,LpS 100 c100 0 n (f100.O n):=lpS f100.l0.P sg_iiillllii f100.l0.A f100.l0.F [loopAt c100 1] (fun n=>(.cons (f100.l1.ok n) .nil))
theorem f100.ok:FnS 100 f100.P sg_lliii f100.A f100.F:=fnS c100 f100.O [loopAt c100 0] (fun n=>(.cons (f100.l0.ok n) .nil))
def f100.w:FnW E:=fnW 100 f100.P sg_lliii f100.A f100.F f100.ok
def f63.l0 (n:Nat):Nat→Nat→List T→Nat→List T→Nat→List T→Nat→List T→Nat→List T→Nat→List T→Nat→List T→Int→Int→Option (Nat × List T × Nat × List T × Nat × List T × Nat × List T)
 | 0,_,_,_,_,_,_,_,_,_,_,_,_,_,_,_,_=>none
 | m+1,n1,l2,n3,l4,n5,l6,n7,l8,n9,l10,n11,l12,n13,l14,i15,i16 =>
   br (decide (i16<i15)) (
    gd (decide ((0≤i16)∧(i16<(n13:Int)))) (
    gd (okAt [CK.bool] l14 (Int.toNat i16)) (
    let b17:=(bAt l14 (Int.toNat i16))
    br (!b17) (
     gd (decide ((0≤i16)∧(i16<(n11:Int)))) (
     gd (Nat.ble ((((Int.toNat i16) * 5)+0)+1) (List.length l12)) (
     let l18:=(setN l12 (((Int.toNat i16) * 5)+0) [(T.lst 0 [])])
     f63.l0 n m n1 l2 n3 l4 n5 l6 n7 l8 n9 l10 n11 l18 n13 l14 i15 (IntKind.i64.wrap (i16+(1:Int)))))) (
     gd (decide ((0≤i16)∧(i16<(n11:Int)))) (
     gd (okAt [CK.lst] l12 (((Int.toNat i16) * 5)+0)) (
     gd ((okAt [CK.lst] l12 (((Int.toNat i16) * 5)+0))&&true) (
     gd ((okAt [CK.lst] l12 (((Int.toNat i16) * 5)+0))&&true) (
     bd (xDelUnit 3 n (nAt l12 (((Int.toNat i16) * 5)+0)) (lAt l12 (((Int.toNat i16) * 5)+0))) fun r19 =>
     let n20:=r19.1
     let l21:=r19.2.1
     gd (decide ((0≤i16)∧(i16<(n11:Int)))) (
     gd (Nat.ble ((((Int.toNat i16) * 5)+0)+1) (List.length (setN l12 (((Int.toNat i16) * 5)+0) [T.nil]))) (
     let l24:=(setN (setN l12 (((Int.toNat i16) * 5)+0) [T.nil]) (((Int.toNat i16) * 5)+0) [(T.lst n20 l21)])
     bd (f63.l1 n n n1 l2 n3 l4 n5 l6 n7 l8 n9 l10 n11 l24 i16 (-1:Int) (0:Int) n13 l14 i15 i16 n1 l2 (n1:Int) (0:Int)) fun r25 =>
     let n26:=r25.1
     let l27:=r25.2.1
     let n28:=r25.2.2.1
     let l29:=r25.2.2.2.1
     let n30:=r25.2.2.2.2.1
     let l31:=r25.2.2.2.2.2.1
     let n32:=r25.2.2.2.2.2.2.1
     let l33:=r25.2.2.2.2.2.2.2.1
     let n34:=r25.2.2.2.2.2.2.2.2.1
     let l35:=r25.2.2.2.2.2.2.2.2.2.1
     let n36:=r25.2.2.2.2.2.2.2.2.2.2.1
     let l37:=r25.2.2.2.2.2.2.2.2.2.2.2.1
     let i38:=r25.2.2.2.2.2.2.2.2.2.2.2.2.1
     let i39:=r25.2.2.2.2.2.2.2.2.2.2.2.2.2.1
     let i40:=r25.2.2.2.2.2.2.2.2.2.2.2.2.2.2.1
     let n41:=r25.2.2.2.2.2.2.2.2.2.2.2.2.2.2.2.1
     let l42:=r25.2.2.2.2.2.2.2.2.2.2.2.2.2.2.2.2.1
     let i43:=r25.2.2.2.2.2.2.2.2.2.2.2.2.2.2.2.2.2.1
     let i44:=r25.2.2.2.2.2.2.2.2.2.2.2.2.2.2.2.2.2.2
     br (decide (i39≥(0:Int))) (
      bd (f100 n n26 l27 n28 l29 i38 i39 (if ((IntKind.i64.wrap (i40 - i39))<(256:Int)) then (IntKind.i64.wrap (i40 - i39)) else (256:Int))) fun r45 =>
      let n46:=r45.1
      let l47:=r45.2
      gd (Nat.ble (n34+1) 2147483648) (
      let n48:=(n34+1)
      let l49:=(l35++(setN (reps 1 [(T.int .i64 (0:Int)),(T.int .i64 (0:Int)),(T.lst 0 [])]) 0 (setN (setN (setN [(T.int .i64 (0:Int)),(T.int .i64 (0:Int)),(T.lst 0 [])] 0 [(T.int .i64 i38)]) 1 [(T.int .i64 i39)]) 2 [(T.lst n46 l47)])))
      f63.l0 n m n26 l27 n28 l29 n30 l31 n32 l33 n48 l49 n36 l37 n41 l42 i43 (IntKind.i64.wrap (i44+(1:Int))))) (
      f63.l0 n m n26 l27 n28 l29 n30 l31 n32 l33 n34 l35 n36 l37 n41 l42 i43 (IntKind.i64.wrap (i44+(1:Int)))))))))))))) (
    some (n5,l6,n7,l8,n9,l10,n11,l12))
termination_by structural x=>x
def f104:Nat→Nat→List T→Nat→List T→Option ((Nat × List T × Nat × List T × Bool × Nat × List T × Nat × List T) ⊕ (Nat × List T × Nat × List T × Bool × Nat × List T × Nat × List T))
 | 0,_,_,_,_=>none
 | n+1,n1,l2,n3,l4 =>
   bd (f101 n n1 l2 n3 l4) fun r5 =>
   let b6:=r5
   br (!b6) (
    some (Sum.inl (0,[],0,[],false,n1,l2,n3,l4))) (
    some (Sum.inr (n1,l2,n3,l4,true,n1,l2,n3,l4)))
def sg_llbll:Sig (Nat × List T × Nat × List T × Bool × Nat × List T × Nat × List T) where
 pk:=fun v=>[.lst v.1 v.2.1,.lst v.2.2.1 v.2.2.2.1,.bool v.2.2.2.2.1,.lst v.2.2.2.2.2.1 v.2.2.2.2.2.2.1,.lst v.2.2.2.2.2.2.2.1 v.2.2.2.2.2.2.2.2]
 up:=fun ls=>match ls with
  | [.lst a0 a1,.lst a2 a3,.bool a4,.lst a5 a6,.lst a7 a8]=>some (a0,a1,a2,a3,a4,a5,a6,a7,a8)
  | _=>none
 ok:=by intro _ _ h;split at h <;>cases h;rfl
def f104.P:List Arg:=[⟨.io,qV2⟩]
def f104.A:RAlt ((Nat × List T × Nat × List T × Bool × Nat × List T × Nat × List T) ⊕ (Nat × List T × Nat × List T × Bool × Nat × List T × Nat × List T)):=.or (.one ⟨[qV2,qV14],[some qV2]⟩ sg_llbll) (.one ⟨[qV2,qV14],[some ⟨true,[.dead,.dead],[.lst 0 [],.lst 0 []]⟩]⟩ sg_llbll)
def f104.F (n:Nat) (v:Nat × List T × Nat × List T):=f104 n v.1 v.2.1 v.2.2.1 v.2.2.2
def f104.O (n:Nat):Orc:=orcOf (E:=E) [f101.w] [] n
theorem f104.ok:FnS 104 f104.P sg_ll f104.A f104.F:=fnS c104 f104.O
def f104.w:FnW E:=fnW 104 f104.P sg_ll f104.A f104.F f104.ok
def f63:Nat→Nat→List T→Nat→List T→Option (Nat × List T × Nat × List T × Bool)
 | 0,_,_,_,_=>none
 | n+1,n1,l2,n3,l4 =>
   bd (f101 n n1 l2 n3 l4) fun r5 =>
   let b6:=r5
   br (!b6) (
    some (0,[],0,[],false)) (
    bd (f103 n n1 l2 n3 l4) fun r7 =>
    let n10:=r7.2.2.1
    let l11:=r7.2.2.2
    bd (f127 n n1 l2 n3 l4) fun r12 =>
    let n13:=r12.1
    let l14:=r12.2
    bd (f63.l0 n n n1 l2 n3 l4 0 [] 0 [] 0 [] n10 l11 n13 l14 (n13:Int) (0:Int)) fun r15 =>
    let n20:=r15.2.2.2.2.1
    let l21:=r15.2.2.2.2.2.1
    let n22:=r15.2.2.2.2.2.2.1
    let l23:=r15.2.2.2.2.2.2.2
    bd (f104 n n20 l21 n22 l23) fun r24 =>
    sm r24 (fun u25 =>
     let n26:=u25.1
     let l27:=u25.2.1
     let n28:=u25.2.2.1
     let l29:=u25.2.2.2.1
     let b30:=u25.2.2.2.2.1
     let n31:=u25.2.2.2.2.2.1
     let l32:=u25.2.2.2.2.2.2.1
     let n33:=u25.2.2.2.2.2.2.2.1
     let l34:=u25.2.2.2.2.2.2.2.2
     some (n26,l27,n28,l29,b30)) (fun u35 =>
     let n36:=u35.1
     let l37:=u35.2.1
     let n38:=u35.2.2.1
     let l39:=u35.2.2.2.1
     let b40:=u35.2.2.2.2.1
     let n41:=u35.2.2.2.2.2.1
     let l42:=u35.2.2.2.2.2.2.1
     let n43:=u35.2.2.2.2.2.2.2.1
     let l44:=u35.2.2.2.2.2.2.2.2
     some (n36,l37,n38,l39,b40)))
def sg_lllllliiiliilii:Sig (Nat × List T × Nat × List T × Nat × List T × Nat × List T × Nat × List T × Nat × List T × Int × Int × Int × Nat × List T × Int × Int × Nat × List T × Int × Int) where
 pk:=fun v=>[.lst v.1 v.2.1,.lst v.2.2.1 v.2.2.2.1,.lst v.2.2.2.2.1 v.2.2.2.2.2.1,.lst v.2.2.2.2.2.2.1 v.2.2.2.2.2.2.2.1,.lst v.2.2.2.2.2.2.2.2.1 v.2.2.2.2.2.2.2.2.2.1,.lst v.2.2.2.2.2.2.2.2.2.2.1 v.2.2.2.2.2.2.2.2.2.2.2.1,.int v.2.2.2.2.2.2.2.2.2.2.2.2.1,.int v.2.2.2.2.2.2.2.2.2.2.2.2.2.1,.int v.2.2.2.2.2.2.2.2.2.2.2.2.2.2.1,.lst v.2.2.2.2.2.2.2.2.2.2.2.2.2.2.2.1 v.2.2.2.2.2.2.2.2.2.2.2.2.2.2.2.2.1,.int v.2.2.2.2.2.2.2.2.2.2.2.2.2.2.2.2.2.1,.int v.2.2.2.2.2.2.2.2.2.2.2.2.2.2.2.2.2.2.1,.lst v.2.2.2.2.2.2.2.2.2.2.2.2.2.2.2.2.2.2.2.1 v.2.2.2.2.2.2.2.2.2.2.2.2.2.2.2.2.2.2.2.2.1,.int v.2.2.2.2.2.2.2.2.2.2.2.2.2.2.2.2.2.2.2.2.2.1,.int v.2.2.2.2.2.2.2.2.2.2.2.2.2.2.2.2.2.2.2.2.2.2]
 up:=fun ls=>match ls with
  | [.lst a0 a1,.lst a2 a3,.lst a4 a5,.lst a6 a7,.lst a8 a9,.lst a10 a11,.int a12,.int a13,.int a14,.lst a15 a16,.int a17,.int a18,.lst a19 a20,.int a21,.int a22]=>some (a0,a1,a2,a3,a4,a5,a6,a7,a8,a9,a10,a11,a12,a13,a14,a15,a16,a17,a18,a19,a20,a21,a22)
  | _=>none
 ok:=by intro _ _ h;split at h <;>cases h;rfl
def sg_lllllliiilii:Sig (Nat × List T × Nat × List T × Nat × List T × Nat × List T × Nat × List T × Nat × List T × Int × Int × Int × Nat × List T × Int × Int) where
 pk:=fun v=>[.lst v.1 v.2.1,.lst v.2.2.1 v.2.2.2.1,.lst v.2.2.2.2.1 v.2.2.2.2.2.1,.lst v.2.2.2.2.2.2.1 v.2.2.2.2.2.2.2.1,.lst v.2.2.2.2.2.2.2.2.1 v.2.2.2.2.2.2.2.2.2.1,.lst v.2.2.2.2.2.2.2.2.2.2.1 v.2.2.2.2.2.2.2.2.2.2.2.1,.int v.2.2.2.2.2.2.2.2.2.2.2.2.1,.int v.2.2.2.2.2.2.2.2.2.2.2.2.2.1,.int v.2.2.2.2.2.2.2.2.2.2.2.2.2.2.1,.lst v.2.2.2.2.2.2.2.2.2.2.2.2.2.2.2.1 v.2.2.2.2.2.2.2.2.2.2.2.2.2.2.2.2.1,.int v.2.2.2.2.2.2.2.2.2.2.2.2.2.2.2.2.2.1,.int v.2.2.2.2.2.2.2.2.2.2.2.2.2.2.2.2.2.2]
 up:=fun ls=>match ls with
  | [.lst a0 a1,.lst a2 a3,.lst a4 a5,.lst a6 a7,.lst a8 a9,.lst a10 a11,.int a12,.int a13,.int a14,.lst a15 a16,.int a17,.int a18]=>some (a0,a1,a2,a3,a4,a5,a6,a7,a8,a9,a10,a11,a12,a13,a14,a15,a16,a17,a18)
  | _=>none
 ok:=by intro _ _ h;split at h <;>cases h;rfl
def f63.l1.P:AS:=⟨[(1,.box [.sl .shr [.leaf,.leaf,.sl .shr [.leaf]],.sl .shr [.sl .shr [.leaf,.leaf,.sl .shr [.leaf]],.leaf,.leaf,.leaf,.leaf]] [.lst 0 [],.lst 0 []] [] 0),(2,.box [.sl .own [.leaf,.leaf,.sl .own [.leaf]],.sl .own [.sl .own [.leaf,.leaf,.sl .own [.leaf]],.leaf,.leaf,.leaf,.leaf]] [.lst 0 [],.lst 0 []] [] 0),(4,.box [.sl .own [.leaf,.leaf,.sl .own [.leaf]],.sl .own [.sl .own [.leaf,.leaf,.sl .own [.leaf]],.leaf,.leaf,.leaf,.leaf]] [.lst 0 [],.lst 0 []] [] 0),(7,qS34),(8,qS34),(9,qS34),(20,qS33),(21,qS34),(22,qS34),(48,qS29),(49,qS34),(50,qS34)],0⟩
def f63.l1.A:Alt (Nat × List T × Nat × List T × Nat × List T × Nat × List T × Nat × List T × Nat × List T × Int × Int × Int × Nat × List T × Int × Int):=.one (.exit 2) ⟨[(1,.box [.sl .shr [.leaf,.leaf,.sl .shr [.leaf]],.sl .shr [.sl .shr [.leaf,.leaf,.sl .shr [.leaf]],.leaf,.leaf,.leaf,.leaf]] [.lst 0 [],.lst 0 []] [] 0),(2,.box [.sl .own [.leaf,.leaf,.sl .own [.leaf]],.sl .own [.sl .own [.leaf,.leaf,.sl .own [.leaf]],.leaf,.leaf,.leaf,.leaf]] [.lst 0 [],.lst 0 []] [] 0),(4,.box [.sl .own [.leaf,.leaf,.sl .own [.leaf]],.sl .own [.sl .own [.leaf,.leaf,.sl .own [.leaf]],.leaf,.leaf,.leaf,.leaf]] [.lst 0 [],.lst 0 []] [] 0),(7,qS34),(8,qS34),(9,qS34),(20,qS33),(21,qS34),(22,qS34),(72,.dead),(91,.dead)],0⟩ sg_lllllliiilii
def f63.l1.F (n m:Nat) (v:Nat × List T × Nat × List T × Nat × List T × Nat × List T × Nat × List T × Nat × List T × Int × Int × Int × Nat × List T × Int × Int × Nat × List T × Int × Int):=f63.l1 n m v.1 v.2.1 v.2.2.1 v.2.2.2.1 v.2.2.2.2.1 v.2.2.2.2.2.1 v.2.2.2.2.2.2.1 v.2.2.2.2.2.2.2.1 v.2.2.2.2.2.2.2.2.1 v.2.2.2.2.2.2.2.2.2.1 v.2.2.2.2.2.2.2.2.2.2.1 v.2.2.2.2.2.2.2.2.2.2.2.1 v.2.2.2.2.2.2.2.2.2.2.2.2.1 v.2.2.2.2.2.2.2.2.2.2.2.2.2.1 v.2.2.2.2.2.2.2.2.2.2.2.2.2.2.1 v.2.2.2.2.2.2.2.2.2.2.2.2.2.2.2.1 v.2.2.2.2.2.2.2.2.2.2.2.2.2.2.2.2.1 v.2.2.2.2.2.2.2.2.2.2.2.2.2.2.2.2.2.1 v.2.2.2.2.2.2.2.2.2.2.2.2.2.2.2.2.2.2.1 v.2.2.2.2.2.2.2.2.2.2.2.2.2.2.2.2.2.2.2.1 v.2.2.2.2.2.2.2.2.2.2.2.2.2.2.2.2.2.2.2.2.1 v.2.2.2.2.2.2.2.2.2.2.2.2.2.2.2.2.2.2.2.2.2.1 v.2.2.2.2.2.2.2.2.2.2.2.2.2.2.2.2.2.2.2.2.2.2
def f63.l1.W (n:Nat):LpW:=.of 224 f63.l1.P sg_lllllliiiliilii f63.l1.A (f63.l1.F n n)
def f63.l0.P:AS:=⟨[(1,.box [.sl .shr [.leaf,.leaf,.sl .shr [.leaf]],.sl .shr [.sl .shr [.leaf,.leaf,.sl .shr [.leaf]],.leaf,.leaf,.leaf,.leaf]] [.lst 0 [],.lst 0 []] [] 0),(2,.box [.sl .own [.leaf,.leaf,.sl .own [.leaf]],.sl .own [.sl .own [.leaf,.leaf,.sl .own [.leaf]],.leaf,.leaf,.leaf,.leaf]] [.lst 0 [],.lst 0 []] [] 0),(4,.box [.sl .own [.leaf,.leaf,.sl .own [.leaf]],.sl .own [.sl .own [.leaf,.leaf,.sl .own [.leaf]],.leaf,.leaf,.leaf,.leaf]] [.lst 0 [],.lst 0 []] [] 0),(20,qS33),(21,qS34),(22,qS34)],0⟩
def f63.l0.A:Alt (Nat × List T × Nat × List T × Nat × List T × Nat × List T):=.one (.exit 0) ⟨[(2,.box [.sl .own [.leaf,.leaf,.sl .own [.leaf]],.sl .own [.sl .own [.leaf,.leaf,.sl .own [.leaf]],.leaf,.leaf,.leaf,.leaf]] [.lst 0 [],.lst 0 []] [] 0),(4,.box [.sl .own [.leaf,.leaf,.sl .own [.leaf]],.sl .own [.sl .own [.leaf,.leaf,.sl .own [.leaf]],.leaf,.leaf,.leaf,.leaf]] [.lst 0 [],.lst 0 []] [] 0)],0⟩ sg_llll
def f63.l0.F (n m:Nat) (v:Nat × List T × Nat × List T × Nat × List T × Nat × List T × Nat × List T × Nat × List T × Nat × List T × Int × Int):=f63.l0 n m v.1 v.2.1 v.2.2.1 v.2.2.2.1 v.2.2.2.2.1 v.2.2.2.2.2.1 v.2.2.2.2.2.2.1 v.2.2.2.2.2.2.2.1 v.2.2.2.2.2.2.2.2.1 v.2.2.2.2.2.2.2.2.2.1 v.2.2.2.2.2.2.2.2.2.2.1 v.2.2.2.2.2.2.2.2.2.2.2.1 v.2.2.2.2.2.2.2.2.2.2.2.2.1 v.2.2.2.2.2.2.2.2.2.2.2.2.2.1 v.2.2.2.2.2.2.2.2.2.2.2.2.2.2.1 v.2.2.2.2.2.2.2.2.2.2.2.2.2.2.2
def f63.l0.W (n:Nat):LpW:=.of 96 f63.l0.P sg_lllllllii f63.l0.A (f63.l0.F n n)
def f63.P:List Arg:=[qA23]
def f63.A:RAlt (Nat × List T × Nat × List T × Bool):=.one ⟨[qV2,qV14],[none]⟩ sg_llb
def f63.F (n:Nat) (v:Nat × List T × Nat × List T):=f63 n v.1 v.2.1 v.2.2.1 v.2.2.2
def f63.O (n:Nat):Orc:=orcOf (E:=E) [x128.w,f101.w,f103.w,f127.w,f102.w,f100.w,f104.w] [f63.l1.W n,f63.l0.W n] n
theorem f63.l1.ok:∀ n,LpS 63 c63 1 n (f63.O n):=lpS f63.l1.P sg_lllllliiiliilii f63.l1.A f63.l1.F
theorem f63.l0.ok:∀ n,LpS 63 c63 0 n (f63.O n):=lpS f63.l0.P sg_lllllllii f63.l0.A f63.l0.F [loopAt c63 1] (fun n=>(.cons (f63.l1.ok n) .nil))
theorem f63.ok:FnS 63 f63.P sg_ll f63.A f63.F:=fnS c63 f63.O [loopAt c63 0] (fun n=>(.cons (f63.l0.ok n) .nil))
def f63.w:FnW E:=fnW 63 f63.P sg_ll f63.A f63.F f63.ok
def f185:Nat→Nat→Nat→Option (Bool)
 | 0,_,_=>none
 | n+1,x1,x2 =>
   br (fne .f64 x1 x1) (
    br (fne .f64 x1 x1) (
     some (fne .f64 x2 x2)) (
     some false)) (
    br (fne .f64 x2 x2) (
     br (fne .f64 x1 x1) (
      some (fne .f64 x2 x2)) (
      some false)) (
     br (feq .f64 x1 0) (
      br (feq .f64 x2 0) (
       some ((fgt .f64 (fdiv .f64 4607182418800017408 x1) 0)==(fgt .f64 (fdiv .f64 4607182418800017408 x2) 0))) (
       some (feq .f64 x1 x2))) (
      some (feq .f64 x1 x2))))
def sg_ff:Sig (Nat × Nat) where
 pk:=fun v=>[.flt v.1,.flt v.2]
 up:=fun ls=>match ls with
  | [.flt a0,.flt a1]=>some (a0,a1)
  | _=>none
 ok:=by intro _ _ h;split at h <;>cases h;rfl
def f185.P:List Arg:=[⟨.val,⟨false,[.leaf],[.flt .f64 0]⟩⟩,⟨.val,⟨false,[.leaf],[.flt .f64 0]⟩⟩]
def f185.A:RAlt (Bool):=.one ⟨[qV14],[none,none]⟩ sg_b
def f185.F (n:Nat) (v:Nat × Nat):=f185 n v.1 v.2
def f185.O (n:Nat):Orc:=orcOf (E:=E) [] [] n
theorem f185.ok:FnS 185 f185.P sg_ff f185.A f185.F:=fnS c185 f185.O
def f185.w:FnW E:=fnW 185 f185.P sg_ff f185.A f185.F f185.ok
end Go.Proofs.Ytdobhipbgpiceaa.D
end
