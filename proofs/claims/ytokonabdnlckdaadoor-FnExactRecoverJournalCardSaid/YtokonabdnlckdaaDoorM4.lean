/- FnExactRecoverJournal holds: for every input the law returns true, and its arguments read as before; what its row lists is tied to the text. -/
import Derived.Shelf.Strings.OnBuilder
import Derived.Shelf.Small.Strs
import Derived.Shelf.LaysM
import Derived.Shelf.Strconv.Itoa4
import Derived.Shelf.Strings.Search3
import Derived.Shelf.Strings.Cut
import Derived.Shelf.Strings.Split
import Derived.Test.YtokonabdnlckdaaDoorChecked
import Derived.Shelf.SlicesE.Kit
import Derived.Shelf.RegionOpenPlain
import Derived.WalkKit
import Derived.Deep.LoopGhost
import Derived.Deep.RegionLaw
import Derived.Deep.MidRow
import Derived.Lib.Walk
import Derived.Sort.WalkB12
import Derived.Lib.SliceRun
import Derived.Lib.SlicesDelete
import Derived.Lib.SlicesMore
import Derived.Lib.SlicesCompact
import Derived.KernelRfl
import Derived.Deep.QuietTactic
import Derived.BigQuiet
import Derived.Test.YtokonabdnlckdaaDoorRows
import Derived.Test.YtokonabdnlckdaaDoorCards
import Derived.Test.YtokonabdnlckdaaDoorTie
import Derived.ProofKit
import Derived.OpenShut
import Derived.ShutString
import Derived.ChangeOld
import Derived.Below
import Derived.SizedLaws
import Derived.SevenTiedAt
import Derived.MakeChecks
import Derived.LaidMore
import Derived.LaidLaws
import Derived.LaidHandle
import Derived.Test.YtokonabdnlckdaaDoorM4d
set_option linter.all false
set_option linter.unusedVariables false
open List (all_cons all_eq_true any_eq_false any_eq_true append_assoc append_nil cons_append count_append drop_drop drop_eq_getElem_cons drop_eq_nil_of_le drop_left' drop_zero flatMap_cons flatMap_def flatten_cons foldl_cons length_append length_cons length_eq_one_iff length_eq_zero_iff length_map length_nil length_singleton length_take mapM_cons map_append map_congr_left map_cons map_map map_nil mem_append mem_append_left mem_append_right mem_cons mem_cons_of_mem mem_cons_self mem_flatten mem_map mem_singleton nil_append nodup_append nodup_cons perm_append_comm perm_iff_count perm_middle replicate_succ take_append_drop take_left' take_length take_succ_cons take_zero)
section
namespace Go.Desk
open Go
def p2 (e:Int):Rat:=(2:Rat) ^ e
theorem G0 (e:Int):0<p2 e:=Rat.zpow_pos (by decide)
theorem Hz (a b:Int):p2 (a+b)=p2 a * p2 b:=Rat.zpow_add (by decide) a b
theorem E4:p2 0=1:=Rat.zpow_zero _
theorem Lh (n:Nat):p2 (n:Int)=((2 ^ n:Nat):Rat):=by
 induction n with
 | zero=>exact E4
 | succ n ih =>
   rw[show ((n+1:Nat):Int)=(n:Int)+1 by omega,Hz,ih,Nat.pow_succ,Rat.natCast_mul,show p2 1=(2:Rat) from Rat.zpow_one _]
   rfl
theorem Pf (n:Nat):1≤p2 (n:Int):=by
 rw[Lh]
 have:1≤2 ^ n:=Nat.one_le_two_pow
 exact_mod_cast this
theorem Iu {a b:Int} (h:a≤b):p2 a≤p2 b:=by
 obtain ⟨n,hn⟩:=Int.eq_ofNat_of_zero_le (show 0≤b - a by omega)
 rw[show b=a+(n:Int) by omega,Hz]
 have:=Rat.mul_le_mul_of_nonneg_left (Pf n) (Rat.le_of_lt (G0 a))
 rwa [Rat.mul_one] at this
theorem QW {a b:Int} (h:a<b):p2 a<p2 b:=by
 have h1:p2 (a+1)≤p2 b:=Iu (by omega)
 have h2:p2 (a+1)=p2 a * 2:=by rw[Hz,show p2 1=(2:Rat) from Rat.zpow_one _]
 have h3:=G0 a
 grind
def mv (m:Nat) (e:Int):Rat:=(m:Rat) * p2 e
theorem Ak (m:Nat) (e:Int):0≤mv m e:=Rat.mul_nonneg (by exact_mod_cast Nat.zero_le m) (Rat.le_of_lt (G0 e))
theorem Bt (e:Int):mv 0 e=0:=by unfold mv;rw[show ((0:Nat):Rat)=0 from rfl,Rat.zero_mul]
theorem A7 (m k:Nat) (e:Int):mv (m * 2 ^ k) e=mv m (e+k):=by
 unfold mv
 rw[Rat.natCast_mul,Hz,Lh]
 grind
theorem Bm {m n:Nat} {e:Int}:mv m e≤mv n e↔m≤n:=by
 unfold mv
 constructor
 ·intro h
  have:=Rat.le_of_mul_le_mul_right h (G0 e)
  exact_mod_cast this
 ·intro h
  exact Rat.mul_le_mul_of_nonneg_right (by exact_mod_cast h) (Rat.le_of_lt (G0 e))
theorem Ky {m n:Nat} {e:Int}:mv m e<mv n e↔m<n:=by
 rw[← Rat.not_le,Bm];omega
theorem SL (e:Int):mv 1 e=p2 e:=by unfold mv;rw[show ((1:Nat):Rat)=1 from rfl,Rat.one_mul]
theorem Cn (k:Nat) (e:Int):mv (2 ^ k) e=p2 (e+k):=by
 have:=A7 1 k e
 rw[Nat.one_mul] at this
 rw[this,SL]
theorem J8 (s:Bool) (n d B:Nat):(n≤B * 2 ^ d→Ieee.Toward.cut .even s n d≤B)∧(B * 2 ^ d≤n→B≤Ieee.Toward.cut .even s n d):=by
 unfold Ieee.Toward.cut
 simp only[Nat.shiftLeft_eq,Nat.one_mul]
 rcases Nat.lt_or_ge (n.log2+2) d with hd | hd
 ·rw[Nat.min_eq_right (Nat.le_of_lt hd)]
  have h1:n<2 ^ (n.log2+1):=Nat.lt_log2_self
  have h2:2 ^ (n.log2+2)=2 * 2 ^ (n.log2+1):=by rw[Nat.pow_succ];omega
  have h3:n<2 ^ (n.log2+2):=by omega
  rw[Nat.div_eq_of_lt h3,Nat.mod_eq_of_lt h3]
  have hm:(decide (2 ^ (n.log2+2)<2 * n)||(2 ^ (n.log2+2)==2 * n&&(0:Nat) % 2==1))=false:=by
   simp;omega
  rw[hm]
  constructor
  ·intro _;exact Nat.zero_le _
  ·intro h
   have h4:2 ^ (n.log2+2)≤2 ^ d:=Nat.pow_le_pow_right (by decide) (by omega)
   rcases Nat.eq_zero_or_pos B with rfl | hB
   ·exact Nat.zero_le _
   ·have:2 ^ d≤B * 2 ^ d:=Nat.le_mul_of_pos_left _ hB
    omega
 ·rw[Nat.min_eq_left hd]
  have hg:0<2 ^ d:=Nat.two_pow_pos d
  generalize 2 ^ d=g at hg ⊢
  have hn:g * (n / g)+n % g=n:=Nat.div_add_mod n g
  have hr:n % g<g:=Nat.mod_lt _ hg
  generalize hq:n / g=q at hn ⊢
  generalize hrr:n % g=r at hn hr ⊢
  constructor
  ·intro h
   cases hm:(decide (g<2 * r)||(g==2 * r&&q % 2==1))
   ·simp only[Bool.toNat_false,Nat.add_zero]
    have:g * q≤B * g:=by omega
    rw[Nat.mul_comm] at this
    exact Nat.le_of_mul_le_mul_right this hg
   ·simp only[Bool.toNat_true]
    have hr0:0<r:=by
     simp only[Bool.or_eq_true,decide_eq_true_eq,zB,beq_iff_eq] at hm
     omega
    have:g * q<g * B:=by rw[Nat.mul_comm g B];omega
    exact Nat.lt_of_mul_lt_mul_left this
  ·intro h
   have:B≤q:=by
    rw[← hq]
    exact (Nat.le_div_iff_mul_le hg).2 h
   omega
def sg (s:Bool) (v:Rat):Rat:=if s then -v else v
def fval (k:FloatKind) (x:Nat):Rat:=match k.decode x with
 | .number s m e=>sg s (mv m e)
 | _=>0
def EA (k:FloatKind) (B:Rat):Prop:=∃ M P,M≤2 * k.format.binade∧k.format.leastPlace≤P∧B=mv M P
def HO:FloatKind→Int
 | .f32=>128
 | .f64=>1024
theorem Sg (k:FloatKind):∃ K:Nat,2≤K∧k.format.infRung=K * k.format.binade∧HO k=k.format.leastPlace+(k.format.fractionBits:Int)+(K:Int) - 1∧k.format.infRung<k.format.signWeight∧k.format.binade=2 ^ k.format.fractionBits:=by
 cases k
 ·exact ⟨255,by decide,by decide,by decide,by decide,rfl⟩
 ·exact ⟨2047,by decide,by decide,by decide,by decide,rfl⟩
theorem Qm {f:Ieee.Format} {s:Bool} {r:Nat} (h:r<f.signWeight):(f.word s r / f.signWeight % 2==1)=s:=by
 have hp:0<f.signWeight:=by omega
 unfold Ieee.Format.word
 cases s
 ·simp[Nat.div_eq_of_lt h]
 ·simp only[if_true]
  rw[Nat.add_div_left _ hp,Nat.div_eq_of_lt h];rfl
theorem Pd {f:Ieee.Format} {s:Bool} {r:Nat} (h:r<f.signWeight):f.word s r % f.signWeight=r:=by
 unfold Ieee.Format.word
 split
 ·rw[Nat.add_mod_left,Nat.mod_eq_of_lt h]
 ·rw[Nat.mod_eq_of_lt h]
theorem LO (k:FloatKind) (s:Bool) {j kept:Nat} (h1:kept≤2 * k.format.binade) (h2:0<j→k.format.binade≤kept) (h3:j * k.format.binade+kept<k.format.infRung) :
  ∃ m e,k.format.read (k.format.word s (j * k.format.binade+kept)) = .number s m e∧mv m e=mv kept (k.format.leastPlace+(j:Int))∧m≤2 * k.format.binade∧k.format.leastPlace≤e:=by
 obtain ⟨K,-,-,-,hw,hb⟩:=Sg k
 have hbp:0<k.format.binade:=by rw[hb];exact Nat.two_pow_pos _
 have hr:j * k.format.binade+kept<k.format.signWeight:=by omega
 unfold Ieee.Format.read
 simp only[Qm hr,Pd hr]
 generalize hbb:k.format.binade=b at *
 by_cases c1:j * b+kept<b
 ·rw[if_pos c1]
  have hj:j=0:=by
   rcases Nat.eq_zero_or_pos j with h | h
   ·exact h
   ·have:=Nat.le_mul_of_pos_left b h;omega
  subst hj
  refine ⟨_,_,rfl,?_,by omega,Int.le_refl _⟩
  rw[Nat.zero_mul,Nat.zero_add];simp
 ·rw[if_neg c1,if_pos h3]
  rcases Nat.lt_or_ge kept b with hk | hk
  ·rcases Nat.eq_zero_or_pos j with h | h
   ·subst h;omega
   ·have:=h2 h;omega
  ·rcases Nat.lt_or_ge kept (2 * b) with hk2 | hk2
   ·have e1:(j * b+kept) / b=j+1:=by
     rw[show j * b+kept=(kept - b)+b * (j+1) by rw[Nat.mul_add,Nat.mul_comm b j];omega,Nat.add_mul_div_left _ _ hbp,Nat.div_eq_of_lt (by omega)];omega
    have e2:(j * b+kept) % b=kept - b:=by
     rw[show j * b+kept=(kept - b)+b * (j+1) by rw[Nat.mul_add,Nat.mul_comm b j];omega,Nat.add_mul_mod_self_left,Nat.mod_eq_of_lt (by omega)]
    refine ⟨_,_,rfl,?_,by rw[e2];omega,by rw[e1];omega⟩
    rw[e1,e2,show b+(kept - b)=kept by omega,Nat.add_sub_cancel]
   ·have hk3:kept=2 * b:=by omega
    subst hk3
    have e1:(j * b+2 * b) / b=j+2:=by rw[← Nat.add_mul,Nat.mul_div_cancel _ hbp]
    have e2:(j * b+2 * b) % b=0:=by rw[← Nat.add_mul,Nat.mul_mod_left]
    refine ⟨_,_,rfl,?_,by rw[e2];omega,by rw[e1];omega⟩
    rw[e1,e2,Nat.add_zero,show (j+2 - 1:Nat)=j+1 by omega,show 2 * b=b * 2 ^ 1 by omega,A7]
    congr 1;omega
theorem LU (k:FloatKind) (s:Bool) (m:Nat) (e:Int) {B0:Rat} (hB0:EA k B0) (hv:mv m e≤B0) (hf:B0<p2 (HO k)) :
  ∃ m' e',k.format.read (k.format.nearest s m e) = .number s m' e'∧m'≤2 * k.format.binade∧k.format.leastPlace≤e'∧∀ B,EA k B→(mv m e≤B→mv m' e'≤B)∧(B≤mv m e→B≤mv m' e'):=by
 obtain ⟨K,hK,hinf,htop,hw,hb⟩:=Sg k
 have hbp:0<k.format.binade:=by rw[hb];exact Nat.two_pow_pos _
 unfold Ieee.Format.nearest
 by_cases hm:m=0
 ·subst hm
  rw[if_pos rfl]
  have h3:0 * k.format.binade+0<k.format.infRung:=by rw[hinf,Nat.zero_mul,Nat.zero_add];exact Nat.mul_pos (by omega) hbp
  obtain ⟨m',e',r1,r2,r3,r4⟩:=LO k s (j:=0) (kept:=0) (Nat.zero_le _) (by omega) h3
  rw[Nat.zero_mul] at r1
  refine ⟨m',e',r1,r3,r4,fun B _ => ?_⟩
  rw[r2,Bt,Bt]
  exact ⟨id,id⟩
 rw[if_neg hm]
 generalize hla:max (e+(m.log2:Int) - (k.format.fractionBits:Int)) k.format.leastPlace=last
 have hl1:k.format.leastPlace≤last:=by omega
 have hl2:e+(m.log2:Int) - (k.format.fractionBits:Int)≤last:=by omega
 have hl3:last≠k.format.leastPlace→last=e+(m.log2:Int) - (k.format.fractionBits:Int):=by omega
 simp only
 generalize hn:m <<< (e - last).toNat=n
 generalize hd:(last - e).toNat=d
 have hval:mv n (last - (d:Int))=mv m e:=by
  rw[← hn,Nat.shiftLeft_eq,A7]
  congr 1;omega
 have hlow:p2 (e+(m.log2:Int))≤mv m e:=by
  have:2 ^ m.log2≤m:=Nat.log2_self_le hm
  have h:=(Bm (e:=e)).2 this
  rwa [Cn] at h
 have hhigh:mv m e<p2 (e+(m.log2:Int)+1):=by
  have:m<2 ^ (m.log2+1):=Nat.lt_log2_self
  have h:=(Ky (e:=e)).2 this
  rw[Cn] at h
  rw[show e+(m.log2:Int)+1=e+((m.log2+1:Nat):Int) by omega];exact h
 generalize hk:Ieee.Toward.cut .even s n d=kept
 have hcut:∀ B:Nat,(mv m e≤mv B last→mv kept last≤mv B last)∧(mv B last≤mv m e→mv B last≤mv kept last):=by
  intro B
  have hB:mv B last=mv (B * 2 ^ d) (last - (d:Int)):=by rw[A7];congr 1;omega
  have:=J8 s n d B
  rw[hk] at this
  rw[Bm,Bm]
  rw[← hval,hB,Bm,Bm]
  exact this
 have hkb:kept≤2 * k.format.binade:=by
  have h:=(hcut (2 * k.format.binade)).1 (by
   rw[hb,show 2 * 2 ^ k.format.fractionBits=2 ^ (k.format.fractionBits+1) by rw[Nat.pow_succ];omega,Cn]
   refine Rat.le_trans (Rat.le_of_lt hhigh) (Iu ?_)
   omega)
  exact Bm.1 h
 have hkl:last≠k.format.leastPlace→k.format.binade≤kept:=by
  intro h
  have h:=(hcut k.format.binade).2 (by
   rw[hb,Cn]
   refine Rat.le_trans (Iu ?_) hlow
   have:=hl3 h
   omega)
  exact Bm.1 h
 have key:∀ B,EA k B→(mv m e≤B→mv kept last≤B)∧(B≤mv m e→B≤mv kept last):=by
  rintro B ⟨M,P,hM,hP,rfl⟩
  by_cases hPl:last≤P
  ·have hB:mv M P=mv (M * 2 ^ (P - last).toNat) last:=by rw[A7];congr 1;omega
   rw[hB];exact hcut _
  ·have hl4:=hl3 (by omega)
   have hMB:mv M P≤mv k.format.binade last:=by
    refine Rat.le_trans (Bm.2 hM) ?_
    rw[hb,show 2 * 2 ^ k.format.fractionBits=2 ^ (k.format.fractionBits+1) by rw[Nat.pow_succ];omega,Cn,Cn]
    exact Iu (by omega)
   have hBm:mv k.format.binade last≤mv m e:=by
    rw[hb,Cn]
    exact Rat.le_trans (Iu (by omega)) hlow
   constructor
   ·intro h
    have h1:mv m e≤mv k.format.binade last:=Rat.le_trans h hMB
    exact Rat.le_trans ((hcut _).1 h1) (Rat.le_trans hBm h)
   ·intro _
    exact Rat.le_trans hMB ((hcut _).2 hBm)
 have hfin:(last - k.format.leastPlace).toNat * k.format.binade+kept<k.format.infRung:=by
  rcases Nat.lt_or_ge ((last - k.format.leastPlace).toNat * k.format.binade+kept) k.format.infRung with h | h
  ·exact h
  ·exfalso
   have hR:mv kept last<p2 (HO k):=by
    have h1:=(key B0 hB0).1 hv
    grind
   rw[hinf] at h
   generalize hj:(last - k.format.leastPlace).toNat=j at h
   generalize hbb:k.format.binade=b at *
   have hj2:K≤j+2:=by
    rcases Nat.lt_or_ge (j+2) K with h' | h'
    ·have:(j+3) * b≤K * b:=Nat.mul_le_mul_right _ h'
     rw[Nat.add_mul] at this
     omega
    ·exact h'
   have hge:p2 (HO k)≤mv kept last:=by
    rcases Nat.lt_or_ge j (K - 1) with h' | h'
    ·have hj3:K=j+2:=by omega
     subst hj3
     rw[Nat.add_mul] at h
     have:kept=2 ^ (k.format.fractionBits+1):=by rw[Nat.pow_succ,← hb];omega
     rw[this,Cn]
     exact Iu (by omega)
    ·have:mv (2 ^ k.format.fractionBits) last≤mv kept last:=Bm.2 (by rw[← hb];exact hkl (by omega))
     refine Rat.le_trans ?_ this
     rw[Cn]
     exact Iu (by omega)
   grind
 rw[Nat.min_eq_left (Nat.le_of_lt hfin)]
 obtain ⟨m',e',r1,r2,r3,r4⟩:=LO k s hkb (fun h=>hkl (by omega)) hfin
 refine ⟨m',e',r1,r3,r4,fun B hB => ?_⟩
 rw[r2,show k.format.leastPlace+((last - k.format.leastPlace).toNat:Int)=last by omega]
 exact key B hB
theorem MY (a b:Nat) (e f:Int):mv (a * b) (e+f)=mv a e * mv b f:=by
 unfold mv;rw[Rat.natCast_mul,Hz];grind
def Sd (k:FloatKind) (B:Rat):Prop:=∃ s C,EA k C∧B=sg s C
theorem Bo (v:Rat):sg false v=v:=rfl
theorem D6 (v:Rat):sg true v = -v:=rfl
theorem Im {k:FloatKind} {B:Rat} (h:EA k B):0≤B:=by
 obtain ⟨M,P,-,-,rfl⟩:=h;exact Ak _ _
theorem EA.rep {k:FloatKind} {B:Rat} (h:EA k B):Sd k B:=⟨false,B,h,rfl⟩
theorem EA.neg {k:FloatKind} {B:Rat} (h:EA k B):Sd k (-B):=⟨true,B,h,rfl⟩
def DJ (k:FloatKind) (x:Nat) (v:Rat):Prop:=∃ s m e,k.decode x = .number s m e∧v=sg s (mv m e)∧m≤2 * k.format.binade∧k.format.leastPlace≤e
theorem DJ.rep {k:FloatKind} {x:Nat} {v:Rat} (h:DJ k x v):Sd k v:=by
 obtain ⟨s,m,e,-,rfl,h1,h2⟩:=h
 exact ⟨s,_,⟨m,e,h1,h2,rfl⟩,rfl⟩
theorem DJ.inj {k:FloatKind} {x:Nat} {v w:Rat} (h:DJ k x v) (h':DJ k x w):v=w:=by
 obtain ⟨s,m,e,h1,rfl,-⟩:=h
 obtain ⟨s',m',e',h2,rfl,-⟩:=h'
 rw[h1] at h2;cases h2;rfl
def IP (k:FloatKind) (v R:Rat):Prop:=∀ B,Sd k B→(v≤B→R≤B)∧(B≤v→B≤R)
theorem Ea (k:FloatKind) (s:Bool) (m:Nat) (e:Int) {B0:Rat} (hB0:EA k B0) (hv:mv m e≤B0) (hf:B0<p2 (HO k)) :
  ∃ R,DJ k (k.encode (.number s m e)) R∧IP k (sg s (mv m e)) R:=by
 obtain ⟨m',e',r1,r2,r3,r4⟩:=LU k s m e hB0 hv hf
 refine ⟨sg s (mv m' e'),⟨s,m',e',r1,rfl,r2,r3⟩,?_⟩
 rintro B ⟨t,C,hC,rfl⟩
 obtain ⟨c1,c2⟩:=r4 C hC
 have hC0:=Im hC
 have h0:=Ak m e
 have h0' :=Ak m' e'
 have hz:mv m e≤0→mv m' e'≤0:=by
  intro h
  have hz:EA k 0:=⟨0,k.format.leastPlace,Nat.zero_le _,Int.le_refl _,(Bt _).symm⟩
  exact (r4 0 hz).1 h
 cases s <;>cases t <;>simp only[sg] <;>constructor <;>intro h <;>simp only[Bool.false_eq_true,if_false,if_true] at * <;>grind
theorem DJ.near_eq {k:FloatKind} {x:Nat} {v R:Rat} (h:DJ k x R) (hn:IP k v R) (hv:Sd k v):DJ k x v:=by
 have h1:=(hn v hv).1 Rat.le_refl
 have h2:=(hn v hv).2 Rat.le_refl
 have:v=R:=by grind
 rw[this];exact h
theorem DJ.num {k:FloatKind} {x:Nat} {v:Rat} (h:DJ k x v):isNaN k x=false:=by
 obtain ⟨s,m,e,h1,-⟩:=h
 unfold isNaN;rw[h1];rfl
theorem Bl (s:Bool) (m up:Nat) (b:Int):((Ieee.signed s m up:Int):Rat) * p2 b=sg s (mv m (b+(up:Int))):=by
 rw[← A7]
 unfold Ieee.signed sg mv
 rw[Nat.shiftLeft_eq]
 cases s <;>simp only[Bool.false_eq_true,if_false,if_true]
 ·rw[Rat.intCast_natCast]
 ·rw[Rat.intCast_neg,Rat.intCast_natCast];grind
theorem IS (t:Int) (c:Bool) (b:Int):sg (if t=0 then c else decide (t<0)) (mv t.natAbs b)=(t:Rat) * p2 b:=by
 by_cases h0:t=0
 ·subst h0
  rw[if_pos rfl]
  simp only[Int.natAbs_zero,Bt,sg,Rat.intCast_zero,Rat.zero_mul]
  cases c <;>simp
 ·rw[if_neg h0]
  by_cases h1:t<0
  ·rw[decide_eq_true h1]
   have:(t:Rat) = -((t.natAbs:Nat):Rat):=by rw[← Rat.intCast_natCast,← Rat.intCast_neg];congr 1;omega
   rw[this]
   simp only[sg,if_true,mv];grind
  ·rw[decide_eq_false h1]
   have:(t:Rat)=((t.natAbs:Nat):Rat):=by rw[← Rat.intCast_natCast];congr 1;omega
   rw[this]
   simp only[sg,Bool.false_eq_true,if_false,mv]
theorem Tk {a b c:Rat} (h1:a≤b) (h2:b<c):a<c:=by grind
theorem Lr {s:Bool} {c B:Rat} (_:0≤c) (h1:sg s c≤B) (h2 : -B≤sg s c):c≤B:=by
 cases s <;>simp only[sg,Bool.false_eq_true,if_false,if_true] at * <;>grind
theorem Ot {k:FloatKind} {x y:Nat} {a b B:Rat} (hx:DJ k x a) (hy:DJ k y b) (hB:EA k B) (hf:B<p2 (HO k)) (h1:a+b≤B) (h2 : -B≤a+b) :
  ∃ R,DJ k (Ke k x y) R∧IP k (a+b) R:=by
 obtain ⟨s,m,i,e1,rfl,-⟩:=hx
 obtain ⟨t,n,j,e2,rfl,-⟩:=hy
 have e1:k.format.read x = .number s m i:=e1
 have e2:k.format.read y = .number t n j:=e2
 generalize hb:min i j=base
 generalize ht:Ieee.signed s m (i - base).toNat+Ieee.signed t n (j - base).toNat=total
 have hadd:Ke k x y=k.encode (.number (if total=0 then s&&t else total<0) total.natAbs base):=by
  simp only[Ke,Ieee.Format.add,e1,e2,Ieee.Datum.sum,Option.map_some,hb,ht]
  rfl
 have hval:sg (if total=0 then s&&t else decide (total<0)) (mv total.natAbs base)=sg s (mv m i)+sg t (mv n j):=by
  rw[IS,← ht,Rat.intCast_add,Rat.add_mul,Bl,Bl]
  congr 2 <;>congr 1 <;>omega
 rw[hadd,← hval]
 exact Ea k _ _ _ hB (Lr (Ak _ _) (by rw[hval];exact h1) (by rw[hval];exact h2)) hf
theorem OW {k:FloatKind} {x y:Nat} {a b B:Rat} (hx:DJ k x a) (hy:DJ k y b) (hB:EA k B) (hf:B<p2 (HO k)) (h1:a * b≤B) (h2 : -B≤a * b) :
  ∃ R,DJ k (MS k x y) R∧IP k (a * b) R:=by
 obtain ⟨s,m,i,e1,rfl,-⟩:=hx
 obtain ⟨t,n,j,e2,rfl,-⟩:=hy
 have e1:k.format.read x = .number s m i:=e1
 have e2:k.format.read y = .number t n j:=e2
 have hmul:MS k x y=k.encode (.number (s ^^ t) (m * n) (i+j)):=by
  simp only[MS,Ieee.Format.mul,e1,e2,Ieee.Datum.product,Option.map_some]
  rfl
 have hval:sg (s ^^ t) (mv (m * n) (i+j))=sg s (mv m i) * sg t (mv n j):=by
  rw[MY]
  cases s <;>cases t <;>simp[sg] <;>grind
 rw[hmul,← hval]
 exact Ea k _ _ _ hB (Lr (Ak _ _) (by rw[hval];exact h1) (by rw[hval];exact h2)) hf
theorem EZ {k:FloatKind} {x y:Nat} {a b:Rat} (hx:DJ k x a) (hy:DJ k y b):(k.format.order x y=some .lt↔a<b)∧(k.format.order x y=some .eq↔a=b)∧(k.format.order x y=some .gt↔b<a):=by
 obtain ⟨s,m,i,e1,rfl,-⟩:=hx
 obtain ⟨t,n,j,e2,rfl,-⟩:=hy
 have e1:k.format.read x = .number s m i:=e1
 have e2:k.format.read y = .number t n j:=e2
 generalize hb:min i j=base
 have ha:sg s (mv m i)=((Ieee.signed s m (i - base).toNat:Int):Rat) * p2 base:=by rw[Bl];congr 2;omega
 have hc:sg t (mv n j)=((Ieee.signed t n (j - base).toNat:Int):Rat) * p2 base:=by rw[Bl];congr 2;omega
 rw[ha,hc]
 have ho:k.format.order x y=some (compare (Ieee.signed s m (i - base).toNat) (Ieee.signed t n (j - base).toNat)):=by
  simp only[Ieee.Format.order,e1,e2,Ieee.Datum.order,hb]
 rw[ho]
 generalize Ieee.signed s m (i - base).toNat=u
 generalize Ieee.signed t n (j - base).toNat=v
 have hlt:∀ p q:Int,(p:Rat) * p2 base<(q:Rat) * p2 base↔p<q:=fun p q=>by rw[Rat.mul_lt_mul_right (G0 _),Rat.intCast_lt_intCast]
 have heq:((u:Rat) * p2 base=(v:Rat) * p2 base)↔u=v:=by
  constructor
  ·intro h
   rcases Int.lt_trichotomy u v with h1 | h1 | h1
   ·have:=(hlt u v).2 h1;grind
   ·exact h1
   ·have:=(hlt v u).2 h1;grind
  ·rintro rfl;rfl
 rw[hlt,hlt,heq]
 have hc:(u<v∧compare u v = .lt)∨(u=v∧compare u v = .eq)∨(v<u∧compare u v = .gt):=by
  rcases Int.lt_trichotomy u v with h1 | h1 | h1
  ·exact .inl ⟨h1,by simp[compare,compareOfLessAndEq,h1]⟩
  ·subst h1;exact .inr (.inl ⟨rfl,by simp[compare,compareOfLessAndEq]⟩)
  ·exact .inr (.inr ⟨h1,by simp only[compare,compareOfLessAndEq];rw[if_neg (by omega),if_neg (by omega)]⟩)
 rcases hc with ⟨h,e⟩ | ⟨h,e⟩ | ⟨h,e⟩ <;>rw[e] <;>simp <;>omega
theorem RJ {k:FloatKind} {x y:Nat} {a b:Rat} (hx:DJ k x a) (hy:DJ k y b):S3 k x y=true↔a≤b:=by
 have h1:=(EZ hx hy).1
 have h2:=(EZ hx hy).2.1
 simp only[S3,Bool.or_eq_true,beq_iff_eq,h1,h2]
 grind
theorem RL {k:FloatKind} {x y:Nat} {a b:Rat} (hx:DJ k x a) (hy:DJ k y b):S2 k x y=true↔b≤a:=by
 have h1:=(EZ hx hy).2.2
 have h2:=(EZ hx hy).2.1
 simp only[S2,Bool.or_eq_true,beq_iff_eq,h1,h2]
 grind
theorem Qj (s:Bool) (n d:Nat):Ieee.Toward.cut .zero s n d=n / 2 ^ d:=by
 unfold Ieee.Toward.cut
 simp only[Nat.shiftLeft_eq,Nat.one_mul,Bool.toNat_false,Nat.add_zero]
 rcases Nat.lt_or_ge (n.log2+2) d with hd | hd
 ·rw[Nat.min_eq_right (Nat.le_of_lt hd)]
  have h1:n<2 ^ (n.log2+1):=Nat.lt_log2_self
  have h2:2 ^ (n.log2+1)≤2 ^ (n.log2+2):=Nat.pow_le_pow_right (by decide) (by omega)
  have h3:2 ^ (n.log2+1)≤2 ^ d:=Nat.pow_le_pow_right (by decide) (by omega)
  rw[Nat.div_eq_of_lt (by omega),Nat.div_eq_of_lt (by omega)]
 ·rw[Nat.min_eq_left hd]
theorem DR {k:FloatKind} {n:Int} (hn:n.natAbs≤2 * k.format.binade):DJ k (k.nearest n) (n:Rat):=by
 have hm:EA k (mv n.natAbs 0):=⟨n.natAbs,0,hn,by cases k <;>decide,rfl⟩
 have hval:sg (decide (n<0)) (mv n.natAbs 0)=(n:Rat):=by
  have:=IS n (decide (n<0)) 0
  rw[E4,Rat.mul_one] at this
  rw[← this]
  congr 1
  by_cases h:n=0
  ·rw[if_pos h]
  ·rw[if_neg h]
 have hlt:mv n.natAbs 0<p2 (HO k):=by
  have h1:mv n.natAbs 0≤mv (2 * k.format.binade) 0:=Bm.2 hn
  cases k
  ·exact Tk h1 (by rw[show 2 * FloatKind.f32.format.binade=2 ^ 24 by decide,Cn];exact QW (by decide))
  ·exact Tk h1 (by rw[show 2 * FloatKind.f64.format.binade=2 ^ 53 by decide,Cn];exact QW (by decide))
 obtain ⟨R,h1,h2⟩:=Ea k (decide (n<0)) n.natAbs 0 hm Rat.le_refl hlt
 have h3:DJ k (k.nearest n) R:=h1
 rw[hval] at h2
 refine h3.near_eq h2 ⟨decide (n<0),_,hm,hval.symm⟩
theorem RR {k:FloatKind} {Q v:Rat} (hQ:0≤Q) (hv:0≤v) (h:∀ C,EA k C→(Q≤C→v≤C)∧(C≤Q→C≤v)) (s:Bool):IP k (sg s Q) (sg s v):=by
 rintro B ⟨t,C,hC,rfl⟩
 obtain ⟨c1,c2⟩:=h C hC
 have hC0:=Im hC
 have hz:Q≤0→v≤0:=(h 0 ⟨0,k.format.leastPlace,Nat.zero_le _,Int.le_refl _,(Bt _).symm⟩).1
 cases s <;>cases t <;>simp only[sg] <;>constructor <;>intro h <;>simp only[Bool.false_eq_true,if_false,if_true] at * <;>grind
theorem IP.trans {k:FloatKind} {a b c:Rat} (h:IP k a b) (h':IP k b c):IP k a c:=fun B hB=>⟨fun h1=>(h' B hB).1 ((h B hB).1 h1),fun h1=>(h' B hB).2 ((h B hB).2 h1)⟩
theorem OS (k:FloatKind) {m n:Nat} {i j:Int} (hn:n≠0) {more q:Nat} {st:Bool} (hmore:k.format.fractionBits+2+n.log2≤more+m.log2) (hq:(m <<< more) / n=q) (hst:((m <<< more) % n != 0)=st) {C:Rat} (hC:EA k C) :
  (mv m i≤C * mv n j→mv (2 * q+st.toNat) (i - j - more - 1)≤C)∧(C * mv n j≤mv m i→C≤mv (2 * q+st.toNat) (i - j - more - 1)):=by
 obtain ⟨-,-,-,-,-,hb⟩:=Sg k
 obtain ⟨M,P,hM,hP,rfl⟩:=hC
 generalize hu:i - j - (more:Int)=u
 rw[Nat.shiftLeft_eq] at hq hst
 generalize hdv:m * 2 ^ more=dv at hq hst
 have hmv:mv m i=mv dv (u+j):=by rw[← hdv,A7];congr 1;omega
 have hdm:=Nat.div_add_mod dv n
 rw[hq] at hdm
 have hml:=Nat.mod_lt dv (Nat.pos_of_ne_zero hn)
 have hstr:(st=true→0<dv % n)∧(st=false→dv % n=0):=by
  rw[← hst]
  constructor <;>intro h <;>simp at h <;>omega
 have hst1:=Bool.toNat_le st
 have h2:∀ c,mv c u=mv (2 * c) (u - 1):=fun c=>by rw[show 2 * c=c * 2 ^ 1 by omega,A7];congr 1;omega
 by_cases hPu:u≤P
 ·have hC:mv M P=mv (M * 2 ^ (P - u).toNat) u:=by rw[A7];congr 1;omega
  rw[hC]
  generalize M * 2 ^ (P - u).toNat=M'
  rw[hmv,← MY,Bm,Bm,h2 M',Bm,Bm]
  constructor
  ·intro h
   have h3:n * q≤n * M' :=by rw[Nat.mul_comm n M'];omega
   have h4:=Nat.le_of_mul_le_mul_left h3 (Nat.pos_of_ne_zero hn)
   cases st
   ·simp only[Bool.toNat_false];omega
   ·have h5:n * q<n * M' :=by rw[Nat.mul_comm n M'];have:=hstr.1 rfl;omega
    have h6:=Nat.lt_of_mul_lt_mul_left h5
    simp only[Bool.toNat_true];omega
  ·intro h
   have:M'≤q:=by
    rw[← hq];exact (Nat.le_div_iff_mul_le (Nat.pos_of_ne_zero hn)).2 h
   omega
 ·by_cases hm:m=0
  ·subst hm
   have hd0:dv=0:=by rw[← hdv,Nat.zero_mul]
   subst hd0
   have hq0:q=0:=by rw[← hq,Nat.zero_div]
   subst hq0
   have:st=false:=by rw[← hst];simp
   subst this
   simp only[Bool.toNat_false,Nat.mul_zero,Nat.add_zero,Bt]
   refine ⟨fun _=>Ak _ _,fun h => ?_⟩
   rcases Nat.eq_zero_or_pos M with h0 | h0
   ·subst h0;rw[Bt];exact Rat.le_refl
   ·exfalso
    rw[← MY] at h
    have h5:mv 0 (P+j)<mv (M * n) (P+j):=Ky.2 (Nat.mul_pos h0 (Nat.pos_of_ne_zero hn))
    rw[Bt] at h5
    grind
  ·have hdl:2 ^ (k.format.fractionBits+2+n.log2)≤dv:=by
    have h3:2 ^ (m.log2+more)≤dv:=by
     rw[Nat.pow_add,← hdv]
     exact Nat.mul_le_mul_right _ (Nat.log2_self_le hm)
    exact Nat.le_trans (Nat.pow_le_pow_right (by decide) (by omega)) h3
   have hql:2 ^ (k.format.fractionBits+1)≤q:=by
    rw[← hq,Nat.le_div_iff_mul_le (Nat.pos_of_ne_zero hn)]
    have h4:n<2 ^ (n.log2+1):=Nat.lt_log2_self
    have h5:2 ^ (k.format.fractionBits+1) * n≤2 ^ (k.format.fractionBits+1) * 2 ^ (n.log2+1):=Nat.mul_le_mul_left _ (Nat.le_of_lt h4)
    rw[← Nat.pow_add,show k.format.fractionBits+1+(n.log2+1)=k.format.fractionBits+2+n.log2 by omega] at h5
    omega
   have hCu:mv M P≤mv (2 ^ k.format.fractionBits) u:=by
    refine Rat.le_trans (Bm.2 hM) ?_
    rw[hb,show 2 * 2 ^ k.format.fractionBits=2 ^ (k.format.fractionBits+1) by rw[Nat.pow_succ];omega,Cn,Cn]
    exact Iu (by omega)
   have hpw:2 ^ k.format.fractionBits<2 ^ (k.format.fractionBits+1):=by rw[Nat.pow_succ];have:=Nat.two_pow_pos k.format.fractionBits;omega
   have hle:mv M P≤mv (2 * q+st.toNat) (u - 1):=by
    refine Rat.le_trans hCu ?_
    rw[h2,Bm];omega
   refine ⟨fun h => ?_,fun _=>hle⟩
   exfalso
   have h6:mv M P * mv n j≤mv (2 ^ k.format.fractionBits) u * mv n j:=Rat.mul_le_mul_of_nonneg_right hCu (Ak _ _)
   have h7:=Rat.le_trans h h6
   rw[hmv,← MY,Bm] at h7
   have h8:2 ^ (k.format.fractionBits+1) * n≤q * n:=Nat.mul_le_mul_right _ hql
   have h9:2 ^ k.format.fractionBits * n<2 ^ (k.format.fractionBits+1) * n:=Nat.mul_lt_mul_of_pos_right hpw (Nat.pos_of_ne_zero hn)
   rw[Nat.mul_comm q n] at h8
   omega
theorem Q1 {k:FloatKind} {x y:Nat} {a b B:Rat} (hx:DJ k x a) (hy:DJ k y b) (hb:b≠0) (hB:EA k B) (hf:B<p2 (HO k)) (h1:a / b≤B) (h2 : -B≤a / b) :
  ∃ R,DJ k (fdiv k x y) R∧IP k (a / b) R:=by
 obtain ⟨s,m,i,e1,rfl,-⟩:=hx
 obtain ⟨t,n,j,e2,rfl,-⟩:=hy
 have e1:k.format.read x = .number s m i:=e1
 have e2:k.format.read y = .number t n j:=e2
 have hn:n≠0:=by
  rintro rfl
  apply hb
  rw[Bt];cases t <;>simp[sg]
 generalize hmo:k.format.fractionBits+2+n.log2 - m.log2=more
 generalize hq:(m <<< more) / n=q
 generalize hst:((m <<< more) % n != 0)=st
 have hdiv:fdiv k x y=k.encode (.number (s ^^ t) (2 * q+st.toNat) (i - j - more - 1)):=by
  simp only[fdiv,Ieee.Format.div,e1,e2,Ieee.Datum.quotient,if_neg hn,hmo,hq,hst,Option.map_some]
  rfl
 have hnp:0<mv n j:=by have:=(Ky (e:=j)).2 (Nat.pos_of_ne_zero hn);rwa [Bt] at this
 have hval:sg s (mv m i) / sg t (mv n j)=sg (s ^^ t) (mv m i / mv n j):=by
  cases s <;>cases t <;>simp[sg] <;>grind
 have hcan:mv m i / mv n j * mv n j=mv m i:=by rw[Rat.div_mul_cancel];grind
 have hQ:0≤mv m i / mv n j:=by
  have h3:=Ak m i
  rcases Rat.le_total (a:=0) (b:=mv m i / mv n j) with h | h
  ·exact h
  ·have h4:mv m i / mv n j * mv n j≤0 * mv n j:=Rat.mul_le_mul_of_nonneg_right h (Rat.le_of_lt hnp)
   rw[hcan,Rat.zero_mul] at h4
   have h5:mv m i=0:=by grind
   rw[h5,Rat.div_def,Rat.zero_mul];exact Rat.le_refl
 have hside:∀ C,EA k C→(mv m i / mv n j≤C→mv (2 * q+st.toNat) (i - j - more - 1)≤C)∧(C≤mv m i / mv n j→C≤mv (2 * q+st.toNat) (i - j - more - 1)):=by
  intro C hC
  obtain ⟨c1,c2⟩:=OS k (i:=i) (j:=j) hn (by omega) hq hst hC
  constructor
  ·intro h
   have:=Rat.mul_le_mul_of_nonneg_right h (Rat.le_of_lt hnp)
   rw[hcan] at this
   exact c1 this
  ·intro h
   have:=Rat.mul_le_mul_of_nonneg_right h (Rat.le_of_lt hnp)
   rw[hcan] at this
   exact c2 this
 rw[hval] at h1 h2 ⊢
 have hQB:=Lr hQ h1 h2
 obtain ⟨R,r1,r2⟩:=Ea k (s ^^ t) (2 * q+st.toNat) (i - j - more - 1) hB ((hside B hB).1 hQB) hf
 rw[hdiv]
 exact ⟨R,r1,(RR hQ (Ak _ _) hside _).trans r2⟩
theorem Dv {k:FloatKind} {x:Nat} {s:Bool} {m:Nat} {e:Int} (h:k.decode x = .number s m e):DJ k x (sg s (mv m e)):=by
 refine ⟨s,m,e,h,rfl,?_⟩
 obtain ⟨K,-,-,-,-,hb⟩:=Sg k
 have hbp:0<k.format.binade:=by rw[hb];exact Nat.two_pow_pos _
 have h:k.format.read x = .number s m e:=h
 unfold Ieee.Format.read at h
 by_cases c1:x % k.format.signWeight<k.format.binade
 ·simp only[if_pos c1] at h
  cases h
  exact ⟨by omega,Int.le_refl _⟩
 ·by_cases c2:x % k.format.signWeight<k.format.infRung
  ·simp only[if_neg c1,if_pos c2] at h
   cases h
   have:=Nat.mod_lt (x % k.format.signWeight) hbp
   exact ⟨by omega,by omega⟩
  ·by_cases c3:x % k.format.signWeight=k.format.infRung
   ·simp only[if_neg c1,if_neg c2,if_pos c3] at h;cases h
   ·simp only[if_neg c1,if_neg c2,if_neg c3] at h;cases h
theorem CP {k:FloatKind} {x:Nat} {s:Bool} {m:Nat} {e:Int} (h:k.decode x = .number s m e) :
  m<2 * k.format.binade∧k.format.leastPlace≤e∧(k.format.leastPlace<e→k.format.binade≤m)∧x % k.format.signWeight=(e - k.format.leastPlace).toNat * k.format.binade+m∧(x / k.format.signWeight % 2==1)=s:=by
 obtain ⟨K,-,-,-,-,hb⟩:=Sg k
 have hbp:0<k.format.binade:=by rw[hb];exact Nat.two_pow_pos _
 have h:k.format.read x = .number s m e:=h
 unfold Ieee.Format.read at h
 by_cases c1:x % k.format.signWeight<k.format.binade
 ·simp only[if_pos c1] at h
  cases h
  refine ⟨by omega,Int.le_refl _,fun h=>by omega,?_,rfl⟩
  rw[Int.sub_self];simp
 ·by_cases c2:x % k.format.signWeight<k.format.infRung
  ·simp only[if_neg c1,if_pos c2] at h
   cases h
   generalize x % k.format.signWeight=r at *
   generalize hbb:k.format.binade=b at *
   have h1:=Nat.mod_lt r hbp
   have h2:=Nat.div_add_mod r b
   have h3:1≤r / b:=(Nat.le_div_iff_mul_le hbp).2 (by omega)
   refine ⟨by omega,by omega,fun _=>by omega,?_,rfl⟩
   have h4:(k.format.leastPlace+((r / b - 1:Nat):Int) - k.format.leastPlace).toNat=r / b - 1:=by omega
   rw[h4]
   generalize r / b=q at *
   obtain ⟨q,rfl⟩:∃ p,q=p+1:=⟨q - 1,by omega⟩
   rw[Nat.mul_add] at h2
   rw[Nat.add_sub_cancel,Nat.mul_comm q b]
   omega
  ·by_cases c3:x % k.format.signWeight=k.format.infRung
   ·simp only[if_neg c1,if_neg c2,if_pos c3] at h;cases h
   ·simp only[if_neg c1,if_neg c2,if_neg c3] at h;cases h
theorem RF {k:FloatKind} {m m':Nat} {e e':Int} (h1:m<2 * k.format.binade) (h1':m'<2 * k.format.binade) (h2:k.format.leastPlace≤e) (h2':k.format.leastPlace≤e') (h3:k.format.leastPlace<e→k.format.binade≤m) (h3':k.format.leastPlace<e'→k.format.binade≤m') (h:mv m e=mv m' e'):m=m'∧e=e' :=by
 have key:∀ {m m':Nat} {e e':Int},m<2 * k.format.binade→k.format.leastPlace≤e→(k.format.leastPlace<e'→k.format.binade≤m')→mv m e=mv m' e'→¬ e<e' :=by
  intro m m' e e' a1 a2 a3 a4 a5
  have e1:mv m' e'=mv (m' * 2 ^ (e' - e).toNat) e:=by rw[A7];congr 1;omega
  rw[e1] at a4
  have h5:=Bm.1 (show mv (m' * 2 ^ (e' - e).toNat) e≤mv m e by rw[a4];exact Rat.le_refl)
  have h6:=a3 (by omega)
  have h7:2 ^ 1≤2 ^ (e' - e).toNat:=Nat.pow_le_pow_right (by decide) (by omega)
  have h8:k.format.binade * 2≤m' * 2 ^ (e' - e).toNat:=Nat.mul_le_mul h6 h7
  omega
 have h4:=key h1 h2 h3' h
 have h5:=key h1' h2' h3 h.symm
 have he:e=e' :=by omega
 subst he
 refine ⟨?_,rfl⟩
 have h6:=Bm.1 (show mv m e≤mv m' e by rw[h];exact Rat.le_refl)
 have h7:=Bm.1 (show mv m' e≤mv m e by rw[h];exact Rat.le_refl)
 omega
theorem QV {k:FloatKind} {x y:Nat} {s:Bool} {m m':Nat} {e e':Int} (hx:x<2 * k.format.signWeight) (hy:y<2 * k.format.signWeight) (h:k.decode x = .number s m e) (h':k.decode y = .number s m' e') (hv:mv m e=mv m' e'):x=y:=by
 obtain ⟨a1,a2,a3,a4,a5⟩:=CP h
 obtain ⟨b1,b2,b3,b4,b5⟩:=CP h'
 obtain ⟨rfl,rfl⟩:=RF a1 b1 a2 b2 a3 b3 hv
 have hp:0<k.format.signWeight:=by omega
 have h1:x % k.format.signWeight=y % k.format.signWeight:=by rw[a4,b4]
 have q1:x / k.format.signWeight<2:=(Nat.div_lt_iff_lt_mul hp).2 hx
 have q2:y / k.format.signWeight<2:=(Nat.div_lt_iff_lt_mul hp).2 hy
 rw[Nat.mod_eq_of_lt q1] at a5
 rw[Nat.mod_eq_of_lt q2] at b5
 have h2:x / k.format.signWeight=y / k.format.signWeight:=by
  have:(x / k.format.signWeight==1)=(y / k.format.signWeight==1):=by rw[a5,b5]
  generalize x / k.format.signWeight=p at *
  generalize y / k.format.signWeight=q at *
  rcases Nat.lt_or_ge p 1 with c1 | c1 <;>rcases Nat.lt_or_ge q 1 with c2 | c2
  ·omega
  ·obtain rfl:p=0:=by omega
   obtain rfl:q=1:=by omega
   cases this
  ·obtain rfl:p=1:=by omega
   obtain rfl:q=0:=by omega
   cases this
  ·omega
 rw[← Nat.div_add_mod x k.format.signWeight,← Nat.div_add_mod y k.format.signWeight,h1,h2]
theorem MN (f:Ieee.Format) (s:Bool) (m:Nat) (e:Int):f.nearest s m e=f.word s (f.nearest false m e):=by
 unfold Ieee.Format.nearest
 by_cases hm:m=0
 ·rw[if_pos hm,if_pos hm];rfl
 ·rw[if_neg hm,if_neg hm];rfl
theorem JP (k:FloatKind) (m:Nat) (e:Int):k.format.nearest false m e≤k.format.infRung:=by
 unfold Ieee.Format.nearest
 by_cases hm:m=0
 ·rw[if_pos hm];exact Nat.zero_le _
 ·rw[if_neg hm];exact Nat.min_le_right _ _
theorem OV (k:FloatKind) (s:Bool) {r:Nat} (h:r≤k.format.infRung):k.format.word s r<2 * k.format.signWeight:=by
 have:=El k
 unfold Ieee.Format.word
 split <;>omega
theorem NC (k:FloatKind) (s:Bool) {m:Nat} {e:Int} (h:EA k (mv m e)) (hf:mv m e<p2 (HO k)):∃ m' e',k.decode (k.encode (.number s m e)) = .number s m' e'∧mv m' e'=mv m e:=by
 obtain ⟨m',e',r1,-,-,r4⟩:=LU k s m e h Rat.le_refl hf
 obtain ⟨c1,c2⟩:=r4 _ h
 have h1:=c1 Rat.le_refl
 have h2:=c2 Rat.le_refl
 exact ⟨m',e',r1,by grind⟩
def Er (x:Nat):Nat:=if isNaN .f32 x then E5 .f32 else x % 2147483648
theorem NV {x:Nat}:(∀ s m e,FloatKind.f32.decode x = .number s m e→FloatKind.f32.decode (x % 2147483648) = .number false m e)∧(∀ s,FloatKind.f32.decode x = .infinity s→FloatKind.f32.decode (x % 2147483648) = .infinity false):=by
 have hw:FloatKind.f32.format.signWeight=2147483648:=rfl
 have hr:x % 2147483648 % FloatKind.f32.format.signWeight=x % FloatKind.f32.format.signWeight:=by rw[hw,Nat.mod_mod]
 have hs:(x % 2147483648 / FloatKind.f32.format.signWeight % 2==1)=false:=by
  rw[hw,Nat.div_eq_of_lt (Nat.mod_lt _ (by decide))];rfl
 constructor
 ·intro s m e h
  have h:FloatKind.f32.format.read x = .number s m e:=h
  show FloatKind.f32.format.read (x % 2147483648)=_
  unfold Ieee.Format.read at h ⊢
  simp only[hr,hs]
  by_cases c1:x % FloatKind.f32.format.signWeight<FloatKind.f32.format.binade
  ·simp only[if_pos c1] at h ⊢;cases h;rfl
  ·by_cases c2:x % FloatKind.f32.format.signWeight<FloatKind.f32.format.infRung
   ·simp only[if_neg c1,if_pos c2] at h ⊢;cases h;rfl
   ·by_cases c3:x % FloatKind.f32.format.signWeight=FloatKind.f32.format.infRung
    ·simp only[if_neg c1,if_neg c2,if_pos c3] at h;cases h
    ·simp only[if_neg c1,if_neg c2,if_neg c3] at h;cases h
 ·intro s h
  have h:FloatKind.f32.format.read x = .infinity s:=h
  show FloatKind.f32.format.read (x % 2147483648)=_
  unfold Ieee.Format.read at h ⊢
  simp only[hr,hs]
  by_cases c1:x % FloatKind.f32.format.signWeight<FloatKind.f32.format.binade
  ·simp only[if_pos c1] at h;cases h
  ·by_cases c2:x % FloatKind.f32.format.signWeight<FloatKind.f32.format.infRung
   ·simp only[if_neg c1,if_pos c2] at h;cases h
   ·by_cases c3:x % FloatKind.f32.format.signWeight=FloatKind.f32.format.infRung
    ·simp only[if_neg c1,if_neg c2,if_pos c3]
    ·simp only[if_neg c1,if_neg c2,if_neg c3] at h;cases h
theorem Qd (k:FloatKind):DJ k 0 0:=by
 have h:k.decode 0 = .number false 0 k.format.leastPlace:=by cases k <;>decide
 have:=Dv h
 rwa [Bo,Bt] at this
theorem OU.lt32 {x:Nat} (h:OU .f32 x):x<4294967296:=by
 have:=h.2
 simpa [Lit.wf] using this
section
variable {p zs:List Nat} {z:Nat} {k:FloatKind}
end
section
variable {p zs:List Int} {z:Int} {k:IntKind}
end
section
variable {α:Type} {p zs:List α} {z:α}
end
def SX (x:Nat):Prop:=x<4294967296∧Af .f32 x=x
theorem OU.w32 {x:Nat} (h:OU .f32 x):SX x:=⟨h.lt32,h.1⟩
theorem QY:SX (E5 .f32):=⟨by decide,by decide⟩
theorem HY (k:FloatKind) {d:Ieee.Datum} (h:∀ s t,d ≠ .nan s t):k.format.write d<2 * k.format.signWeight:=by
 cases d with
 | nan s t=>exact absurd rfl (h s t)
 | infinity s=>exact OV k s (Nat.le_refl _)
 | number s m e =>
   show k.format.nearest s m e<_
   rw[MN]
   exact OV k s (JP k m e)
theorem PC {d:Ieee.Datum} (h:∀ s t,d ≠ .nan s t):SX (FloatKind.f32.format.write d):=⟨HY .f32 h,Bc (Eg h)⟩
theorem Qq (x y:Nat):SX (fdiv .f32 x y):=by
 unfold fdiv Ieee.Format.div
 cases h:(FloatKind.f32.format.read x).quotient (FloatKind.f32.format.fractionBits+2) (FloatKind.f32.format.read y) with
 | none=>exact QY
 | some d=>exact PC (fun s t e=>Ef h s t e)
def It (x:Nat):Prop:=∃ m:Int,(-64≤m∧m≤64)∧(x=fdiv .f32 (FloatKind.f32.nearest m) 1088421888∨x=fdiv .f32 (FloatKind.f32.nearest m) 1098907648)
theorem It.w32 {x:Nat} (h:It x):SX x:=by
 obtain ⟨m,-,rfl | rfl⟩:=h <;>exact Qq _ _
section
variable {σ α β:Type}
end
def C5 (k:FloatKind) (x:Nat):Nat:=x % k.format.signWeight
def Oo (k:FloatKind) (x:Nat):Bool:=x / k.format.signWeight % 2==1
def key (k:FloatKind) (x:Nat):Int:=if Oo k x then -(C5 k x:Int) else (C5 k x:Int)
theorem Gt (k:FloatKind):0<k.format.binade:=by cases k <;>decide
theorem Ng {k:FloatKind} {x:Nat} {s:Bool} (h:k.decode x = .infinity s):C5 k x=k.format.infRung∧Oo k x=s:=by
 have h:k.format.read x = .infinity s:=h
 unfold Ieee.Format.read at h
 by_cases c1:x % k.format.signWeight<k.format.binade
 ·simp only[if_pos c1] at h;cases h
 ·by_cases c2:x % k.format.signWeight<k.format.infRung
  ·simp only[if_neg c1,if_pos c2] at h;cases h
  ·by_cases c3:x % k.format.signWeight=k.format.infRung
   ·simp only[if_neg c1,if_neg c2,if_pos c3] at h;cases h;exact ⟨c3,rfl⟩
   ·simp only[if_neg c1,if_neg c2,if_neg c3] at h;cases h
theorem Ec {k:FloatKind} {x:Nat} {s:Bool} {m:Nat} {e:Int} (h:k.decode x = .number s m e):C5 k x<k.format.infRung∧Oo k x=s:=by
 refine ⟨?_,(CP h).2.2.2.2⟩
 have h:k.format.read x = .number s m e:=h
 unfold Ieee.Format.read at h
 have hb:k.format.binade<k.format.infRung:=by cases k <;>decide
 by_cases c1:x % k.format.signWeight<k.format.binade
 ·unfold C5;omega
 ·by_cases c2:x % k.format.signWeight<k.format.infRung
  ·exact c2
  ·by_cases c3:x % k.format.signWeight=k.format.infRung
   ·simp only[if_neg c1,if_neg c2,if_pos c3] at h;cases h
   ·simp only[if_neg c1,if_neg c2,if_neg c3] at h;cases h
theorem QQ {k:FloatKind} {x y:Nat} {s t:Bool} {m n:Nat} {i j:Int} (h:k.decode x = .number s m i) (h':k.decode y = .number t n j) (hl:C5 k x<C5 k y):mv m i<mv n j:=by
 obtain ⟨a1,a2,a3,a4,-⟩:=CP h
 obtain ⟨b1,b2,b3,b4,-⟩:=CP h'
 unfold C5 at hl
 rw[a4,b4] at hl
 have hB:=Gt k
 generalize k.format.binade=B at *
 generalize k.format.leastPlace=L at *
 rcases Int.lt_trichotomy i j with hij | rfl | hij
 ·have e1:mv n j=mv (n * 2 ^ (j - i).toNat) i:=by rw[A7];congr 1;omega
  rw[e1,Ky]
  have h6:=b3 (by omega)
  have h7:2 ^ 1≤2 ^ (j - i).toNat:=Nat.pow_le_pow_right (by decide) (by omega)
  have h8:B * 2≤n * 2 ^ (j - i).toNat:=Nat.mul_le_mul h6 h7
  omega
 ·rw[Ky];omega
 ·exfalso
  have h6:=a3 (by omega)
  have:(i - L).toNat=(j - L).toNat+(i - j).toNat:=by omega
  rw[this,Nat.add_mul] at hl
  have:B≤(i - j).toNat * B:=Nat.le_mul_of_pos_left B (by omega)
  omega
theorem Pt {k:FloatKind} {x y:Nat} {s t:Bool} {m n:Nat} {i j:Int} (h:k.decode x = .number s m i) (h':k.decode y = .number t n j) (hl:C5 k x=C5 k y):mv m i=mv n j:=by
 obtain ⟨a1,a2,a3,a4,-⟩:=CP h
 obtain ⟨b1,b2,b3,b4,-⟩:=CP h'
 unfold C5 at hl
 rw[a4,b4] at hl
 have hB:=Gt k
 generalize k.format.binade=B at *
 generalize k.format.leastPlace=L at *
 have:i=j:=by
  rcases Int.lt_trichotomy i j with hij | e | hij
  ·exfalso
   have h6:=b3 (by omega)
   have:(j - L).toNat=(i - L).toNat+(j - i).toNat:=by omega
   rw[this,Nat.add_mul] at hl
   have:B≤(j - i).toNat * B:=Nat.le_mul_of_pos_left B (by omega)
   omega
  ·exact e
  ·exfalso
   have h6:=a3 (by omega)
   have:(i - L).toNat=(j - L).toNat+(i - j).toNat:=by omega
   rw[this,Nat.add_mul] at hl
   have:B≤(i - j).toNat * B:=Nat.le_mul_of_pos_left B (by omega)
   omega
 subst this
 have:m=n:=by omega
 rw[this]
theorem Hm {k:FloatKind} {x:Nat} {s:Bool} {m:Nat} {i:Int} (h:k.decode x = .number s m i):(C5 k x=0↔mv m i=0):=by
 obtain ⟨a1,a2,a3,a4,-⟩:=CP h
 have hB:=Gt k
 unfold C5
 rw[a4]
 constructor
 ·intro h0
  have:m=0:=by omega
  rw[this,Bt]
 ·intro h0
  have hm:m=0:=by
   rcases Nat.eq_zero_or_pos m with e | e
   ·exact e
   ·have h1:mv 0 i<mv m i:=Ky.2 e
    rw[Bt,h0] at h1
    exact absurd h1 (by decide)
  subst hm
  have:¬ k.format.leastPlace<i:=fun h1=>by have:=a3 h1;omega
  have:(i - k.format.leastPlace).toNat=0:=by omega
  rw[this];simp
theorem CU (a b:Int):(a<b∧compare a b = .lt)∨(a=b∧compare a b = .eq)∨(b<a∧compare a b = .gt):=by
 rcases Int.lt_trichotomy a b with h1 | h1 | h1
 ·exact .inl ⟨h1,by simp[compare,compareOfLessAndEq,h1]⟩
 ·subst h1;exact .inr (.inl ⟨rfl,by simp[compare,compareOfLessAndEq]⟩)
 ·exact .inr (.inr ⟨h1,by simp only[compare,compareOfLessAndEq];rw[if_neg (by omega),if_neg (by omega)]⟩)
theorem KA {k:FloatKind} {x y:Nat} {s t:Bool} {m n:Nat} {i j:Int} (h:k.decode x = .number s m i) (h':k.decode y = .number t n j) (hl:key k x<key k y):sg s (mv m i)<sg t (mv n j):=by
 have hs:=(Ec h).2
 have ht:=(Ec h').2
 unfold key at hl
 rw[hs,ht] at hl
 have z1:=Hm h
 have z2:=Hm h'
 have p1:=Ak m i
 have p2:=Ak n j
 cases s <;>cases t <;>simp only[Bool.false_eq_true,if_false,if_true,sg] at hl ⊢
 ·exact QQ h h' (by omega)
 ·omega
 ·rcases Nat.eq_zero_or_pos (C5 k y) with e | e
  ·have:0<C5 k x:=by omega
   have:mv m i≠0:=fun h0=>by rw[z1.2 h0] at this;omega
   have h0:=z2.1 e
   rw[h0];grind
  ·have:mv n j≠0:=fun h0=>by rw[z2.2 h0] at e;omega
   grind
 ·have:=QQ h' h (by omega)
  grind
theorem OF {k:FloatKind} {x y:Nat} {s t:Bool} {m n:Nat} {i j:Int} (h:k.decode x = .number s m i) (h':k.decode y = .number t n j) (hl:key k x=key k y):sg s (mv m i)=sg t (mv n j):=by
 have hs:=(Ec h).2
 have ht:=(Ec h').2
 unfold key at hl
 rw[hs,ht] at hl
 have z1:=Hm h
 have z2:=Hm h'
 cases s <;>cases t <;>simp only[Bool.false_eq_true,if_false,if_true,sg] at hl ⊢
 ·exact Pt h h' (by omega)
 ·rw[z1.1 (by omega),z2.1 (by omega)];rfl
 ·rw[z1.1 (by omega),z2.1 (by omega)];rfl
 ·rw[Pt h h' (by omega)]
theorem Pa {k:FloatKind} {x y:Nat} (hx:isNaN k x=false) (hy:isNaN k y=false):k.format.order x y=some (compare (key k x) (key k y)):=by
 have inf_pos:∀ {z:Nat} {s:Bool},k.decode z = .infinity s→key k z=if s then -(k.format.infRung:Int) else (k.format.infRung:Int):=by
  intro z s h
  obtain ⟨h1,h2⟩:=Ng h
  unfold key;rw[h1,h2]
 have fin_lt:∀ {z:Nat} {s:Bool} {m:Nat} {e:Int},k.decode z = .number s m e → -(k.format.infRung:Int)<key k z∧key k z<(k.format.infRung:Int):=by
  intro z s m e h
  obtain ⟨h1,h2⟩:=Ec h
  unfold key;rw[h2]
  cases s <;>simp only[Bool.false_eq_true,if_false,if_true] <;>omega
 have hI:(0:Int)<(k.format.infRung:Int):=by cases k <;>decide
 have lt_c:∀ a b:Int,a<b→compare a b = .lt:=fun a b h=>by rcases CU a b with ⟨h1,e⟩ | ⟨h1,e⟩ | ⟨h1,e⟩ <;>first | exact e | omega
 have gt_c:∀ a b:Int,b<a→compare a b = .gt:=fun a b h=>by rcases CU a b with ⟨h1,e⟩ | ⟨h1,e⟩ | ⟨h1,e⟩ <;>first | exact e | omega
 have eq_c:∀ a b:Int,a=b→compare a b = .eq:=fun a b h=>by rcases CU a b with ⟨h1,e⟩ | ⟨h1,e⟩ | ⟨h1,e⟩ <;>first | exact e | omega
 unfold isNaN at hx hy
 cases h1:k.decode x with
 | nan s f=>rw[h1] at hx;simp[Ieee.Datum.isNaN] at hx
 | infinity s =>
   cases h2:k.decode y with
   | nan s f=>rw[h2] at hy;simp[Ieee.Datum.isNaN] at hy
   | infinity t =>
     have e1:k.format.read x = .infinity s:=h1
     have e2:k.format.read y = .infinity t:=h2
     simp only[Ieee.Format.order,e1,e2,Ieee.Datum.order]
     rw[inf_pos h1,inf_pos h2]
     cases s <;>cases t <;>simp only[Bool.false_eq_true,if_false,if_true]
     ·rw[eq_c _ _ rfl];rfl
     ·rw[gt_c _ _ (by omega)];rfl
     ·rw[lt_c _ _ (by omega)];rfl
     ·rw[eq_c _ _ rfl];rfl
   | number t n j =>
     have e1:k.format.read x = .infinity s:=h1
     have e2:k.format.read y = .number t n j:=h2
     have:=fin_lt h2
     simp only[Ieee.Format.order,e1,e2,Ieee.Datum.order]
     rw[inf_pos h1]
     cases s <;>simp only[Bool.false_eq_true,if_false,if_true]
     ·rw[gt_c _ _ (by omega)]
     ·rw[lt_c _ _ (by omega)]
 | number s m i =>
   cases h2:k.decode y with
   | nan s f=>rw[h2] at hy;simp[Ieee.Datum.isNaN] at hy
   | infinity t =>
     have e1:k.format.read x = .number s m i:=h1
     have e2:k.format.read y = .infinity t:=h2
     have:=fin_lt h1
     simp only[Ieee.Format.order,e1,e2,Ieee.Datum.order]
     rw[inf_pos h2]
     cases t <;>simp only[Bool.false_eq_true,if_false,if_true]
     ·rw[lt_c _ _ (by omega)]
     ·rw[gt_c _ _ (by omega)]
   | number t n j =>
     obtain ⟨o1,o2,o3⟩:=EZ (Dv h1) (Dv h2)
     rcases CU (key k x) (key k y) with ⟨h3,e⟩ | ⟨h3,e⟩ | ⟨h3,e⟩
     ·rw[e];exact o1.2 (KA h1 h2 h3)
     ·rw[e];exact o2.2 (OF h1 h2 h3)
     ·rw[e];exact o3.2 (KA h2 h1 h3)
section
variable {k:FloatKind} {x y:Nat}
theorem Ku (h:isNaN k x=true∨isNaN k y=true):k.format.order x y=none:=by
 unfold isNaN FloatKind.decode at h
 unfold Ieee.Format.order
 rcases h with h | h
 ·cases hr:k.format.read x with
  | nan s t=>simp[Ieee.Datum.order]
  | infinity s=>rw[hr] at h;cases h
  | number s m e=>rw[hr] at h;cases h
 ·cases hr:k.format.read y with
  | nan s t=>cases k.format.read x <;>simp[Ieee.Datum.order]
  | infinity s=>rw[hr] at h;cases h
  | number s m e=>rw[hr] at h;cases h
def M5 (k:FloatKind) (x y:Nat):Bool:=!isNaN k x && !isNaN k y
theorem J4:k.format.order x y=if M5 k x y then some (compare (key k x) (key k y)) else none:=by
 unfold M5
 cases hx:isNaN k x
 ·cases hy:isNaN k y
  ·exact Pa hx hy
  ·exact Ku (.inr hy)
 ·exact Ku (.inl hx)
theorem Rd:S3 k x y=(M5 k x y&&decide (key k x≤key k y)):=by
 unfold S3
 rw[J4]
 cases M5 k x y
 ·rfl
 ·rcases CU (key k x) (key k y) with ⟨h,e⟩ | ⟨h,e⟩ | ⟨h,e⟩ <;>rw[if_pos rfl,e] <;>simp <;>omega
theorem RB:S2 k x y=(M5 k x y&&decide (key k y≤key k x)):=by
 unfold S2
 rw[J4]
 cases M5 k x y
 ·rfl
 ·rcases CU (key k x) (key k y) with ⟨h,e⟩ | ⟨h,e⟩ | ⟨h,e⟩ <;>rw[if_pos rfl,e] <;>simp <;>omega
end
theorem Oq {x:Nat} (h:x<4294967296):key .f32 x=if x<2147483648 then (x:Int) else -((x:Int) - 2147483648):=by
 have hw:FloatKind.f32.format.signWeight=2147483648:=rfl
 unfold key Oo C5
 rw[hw]
 by_cases c:x<2147483648
 ·rw[if_pos c,Nat.div_eq_of_lt c,Nat.mod_eq_of_lt c];rfl
 ·have:x / 2147483648=1:=by omega
  rw[if_neg c,this,if_pos (by decide)]
  omega
theorem S1 {x:Nat}:isNaN .f32 x=decide (2139095040<x % 2147483648):=IT x
abbrev Mem:=Nat × Nat × Nat × Nat
section
variable {σ α β:Type} {f:σ→α→β × σ} {P:σ→Prop} {Q:α→Prop} {S:β→Prop}
end
def Ha (x:Nat):Bool:=decide (x % 2147483648<2139095040)
theorem Og {x:Nat} (h:Ha x=true):isNaN .f32 x=false:=by
 unfold Ha at h;rw[S1];simp at h ⊢;omega
theorem QC {x:Nat} (h:Ha x=true):∃ s m e,FloatKind.f32.decode x = .number s m e:=by
 cases hd:FloatKind.f32.decode x with
 | number s m e=>exact ⟨s,m,e,rfl⟩
 | infinity s =>
   have h1:=(Ng hd).1
   unfold Ha at h
   have e1:FloatKind.f32.format.infRung=2139095040:=by decide
   have e2:C5 .f32 x=x % 2147483648:=rfl
   simp at h
   omega
 | nan s t =>
   have:=Og h
   unfold isNaN at this
   rw[hd] at this;cases this
theorem RK {k:FloatKind} {x y:Nat} {a b B:Rat} (hx:DJ k x a) (hy:DJ k y b) (hB:EA k B) (hf:B<p2 (HO k)) (h1:a - b≤B) (h2 : -B≤a - b) :
  ∃ R,DJ k (P6 k x y) R∧IP k (a - b) R:=by
 obtain ⟨s,m,i,e1,rfl,-⟩:=hx
 obtain ⟨t,n,j,e2,rfl,-⟩:=hy
 have e1:k.format.read x = .number s m i:=e1
 have e2:k.format.read y = .number t n j:=e2
 generalize hb:min i j=base
 generalize ht:Ieee.signed s m (i - base).toNat+Ieee.signed (!t) n (j - base).toNat=total
 have hadd:P6 k x y=k.encode (.number (if total=0 then s && !t else total<0) total.natAbs base):=by
  simp only[P6,Ieee.Format.sub,e1,e2,Ieee.Datum.opposite,Ieee.Datum.sum,Option.map_some,hb,ht]
  rfl
 have hneg:sg (!t) (mv n j) = -sg t (mv n j):=by cases t <;>simp[sg]
 have hval:sg (if total=0 then s && !t else decide (total<0)) (mv total.natAbs base)=sg s (mv m i) - sg t (mv n j):=by
  rw[Rat.sub_eq_add_neg,← hneg,IS,← ht,Rat.intCast_add,Rat.add_mul,Bl,Bl]
  congr 2 <;>congr 1 <;>omega
 rw[hadd,← hval]
 exact Ea k _ _ _ hB (Lr (Ak _ _) (by rw[hval];exact h1) (by rw[hval];exact h2)) hf
theorem Ox (k:FloatKind) (s:Bool) (m:Nat) (e:Int):k.encode (.number s m e)<2 * k.format.signWeight:=HY k (by intro _ _ h;cases h)
theorem Ra (k:FloatKind) (x y:Nat):Ke k x y<2 * k.format.signWeight:=by
 unfold Ke Ieee.Format.add
 cases h:(k.format.read x).sum (k.format.read y) with
 | none=>cases k <;>decide
 | some d=>exact HY k (fun s t e=>Fc h s t e)
theorem RW (k:FloatKind) (x y:Nat):MS k x y<2 * k.format.signWeight:=by
 unfold MS Ieee.Format.mul
 cases h:(k.format.read x).product (k.format.read y) with
 | none=>cases k <;>decide
 | some d=>exact HY k (fun s t e=>FJ h s t e)
theorem KH (k:FloatKind) (n:Int):k.nearest n<2 * k.format.signWeight:=Ox k _ _ _
theorem Ii {k:FloatKind} {x y:Nat} {a:Rat} (hx:x<2 * k.format.signWeight) (hy:y<2 * k.format.signWeight) (h1:DJ k x a) (h2:DJ k y a) (ha:a≠0):x=y:=by
 obtain ⟨s,m,i,e1,h3,-⟩:=h1
 obtain ⟨t,n,j,e2,h4,-⟩:=h2
 have p1:=Ak m i
 have p2:=Ak n j
 have hst:s=t:=by
  cases s <;>cases t <;>simp only[D6,Bo] at h3 h4 <;>first | rfl | (exfalso;grind)
 subst hst
 refine QV hx hy e1 e2 ?_
 cases s <;>simp only[D6,Bo] at h3 h4 <;>grind
theorem Dd (k:FloatKind) {B:Nat} (hB:B≤2 * k.format.binade):EA k (B:Rat):=by
 refine ⟨B,0,hB,by cases k <;>decide,?_⟩
 unfold mv;rw[E4,Rat.mul_one]
theorem FE (k:FloatKind) {B:Nat} (hB:B≤2 * k.format.binade):(B:Rat)<p2 (HO k):=by
 have h1:(B:Rat)≤((2 * k.format.binade:Nat):Rat):=by exact_mod_cast hB
 have h2:((2 * k.format.binade:Nat):Rat)<p2 (HO k):=by
  have:∃ j:Nat,2 * k.format.binade=2 ^ j∧(j:Int)<HO k:=by
   cases k
   ·exact ⟨24,by decide,by decide⟩
   ·exact ⟨53,by decide,by decide⟩
  obtain ⟨j,e,h⟩:=this
  rw[e,← Lh]
  exact QW h
 exact Tk h1 h2
theorem Ov {k:FloatKind} {n:Int} (hn:n.natAbs≤2 * k.format.binade):Sd k (n:Rat):=(DR hn).rep
theorem L0 {n:Int}:(n:Rat)≤((n.natAbs:Nat):Rat) ∧ -((n.natAbs:Nat):Rat)≤(n:Rat):=by
 have h1:n≤((n.natAbs:Nat):Int):=by omega
 have h2 : -((n.natAbs:Nat):Int)≤n:=by omega
 have e:((n.natAbs:Nat):Rat)=(((n.natAbs:Nat):Int):Rat):=(Rat.intCast_natCast _).symm
 rw[e]
 refine ⟨Rat.intCast_le_intCast.2 h1,?_⟩
 rw[← Rat.intCast_neg]
 exact Rat.intCast_le_intCast.2 h2
theorem E1 (k:FloatKind):k.nearest 0=0:=by cases k <;>decide
theorem Q7 {k:FloatKind} {a b:Int} (ha:a.natAbs≤2 * k.format.binade) (hb:b.natAbs≤2 * k.format.binade) (hab:(a+b).natAbs≤2 * k.format.binade):Ke k (k.nearest a) (k.nearest b)=k.nearest (a+b):=by
 have va:=DR (k:=k) ha
 have vb:=DR (k:=k) hb
 by_cases h0:a+b=0
 ·rw[h0,E1]
  obtain ⟨s,m,i,e1,h1,-⟩:=va
  obtain ⟨t,n,j,e2,h2,-⟩:=vb
  have p1:=Ak m i
  have p2' :=Ak n j
  have hbv:(b:Rat) = -(a:Rat):=by
   have:b = -a:=by omega
   rw[this,Rat.intCast_neg]
  have hst:(s&&t)=false:=by
   by_cases h:a=0
   ·subst h
    rw[E1] at e1
    have:k.decode 0 = .number false 0 k.format.leastPlace:=by cases k <;>decide
    rw[this] at e1
    cases e1;rfl
   ·have hne:(a:Rat)≠0:=by exact_mod_cast h
    cases s <;>cases t <;>simp only[D6,Bo] at h1 h2 <;>first | rfl | (exfalso;grind)
  have e1:k.format.read (k.nearest a) = .number s m i:=e1
  have e2:k.format.read (k.nearest b) = .number t n j:=e2
  generalize hbase:min i j=base
  have ht:Ieee.signed s m (i - base).toNat+Ieee.signed t n (j - base).toNat=0:=by
   have h3:((Ieee.signed s m (i - base).toNat+Ieee.signed t n (j - base).toNat:Int):Rat) * p2 base=0:=by
    rw[Rat.intCast_add,Rat.add_mul,Bl,Bl]
    rw[show base+((i - base).toNat:Int)=i by omega,show base+((j - base).toNat:Int)=j by omega,← h1,← h2,hbv]
    grind
   have h4:=G0 base
   have h5:((Ieee.signed s m (i - base).toNat+Ieee.signed t n (j - base).toNat:Int):Rat)=0:=by
    rcases Rat.mul_eq_zero.1 h3 with h | h
    ·exact h
    ·rw[h] at h4;exact absurd h4 (by decide)
   exact_mod_cast h5
  simp only[Ke,Ieee.Format.add,e1,e2,Ieee.Datum.sum,Option.map_some,hbase,ht,hst]
  rfl
 ·have hv:(a:Rat)+(b:Rat)=((a+b:Int):Rat):=(Rat.intCast_add _ _).symm
  obtain ⟨h1,h2⟩:=L0 (n:=a+b)
  obtain ⟨R,h3,h4⟩:=Ot va vb (Dd k hab) (FE k hab) (by rw[hv];exact h1) (by rw[hv];exact h2)
  rw[hv] at h4
  have h5:=h3.near_eq h4 (Ov hab)
  exact Ii (Ra _ _ _) (KH _ _) h5 (DR hab) (by exact_mod_cast h0)
def Bd (k:FloatKind) (x:Nat) (B:Nat):Prop:=∃ v:Rat,DJ k x v ∧ -(B:Rat)≤v∧v≤(B:Rat)
theorem IP.bd {k:FloatKind} {v R:Rat} {B:Nat} (h:IP k v R) (hB:B≤2 * k.format.binade) (h1:v≤(B:Rat)) (h2 : -(B:Rat)≤v) : -(B:Rat)≤R∧R≤(B:Rat) :=
 ⟨(h _ (Dd k hB).neg).2 h2,(h _ (Dd k hB).rep).1 h1⟩
theorem Bd.add {k:FloatKind} {x y A B:Nat} (hx:Bd k x A) (hy:Bd k y B) (h:A+B≤2 * k.format.binade):Bd k (Ke k x y) (A+B):=by
 obtain ⟨v,h1,h2,h3⟩:=hx
 obtain ⟨w,h4,h5,h6⟩:=hy
 have e:=Rat.natCast_add A B
 have g1:v+w≤((A+B:Nat):Rat):=by rw[e];grind
 have g2 : -((A+B:Nat):Rat)≤v+w:=by rw[e];grind
 obtain ⟨R,q1,q2⟩:=Ot h1 h4 (Dd k h) (FE k h) g1 g2
 exact ⟨R,q1,q2.bd h g1 g2⟩
theorem Bd.sub {k:FloatKind} {x y A B:Nat} (hx:Bd k x A) (hy:Bd k y B) (h:A+B≤2 * k.format.binade):Bd k (P6 k x y) (A+B):=by
 obtain ⟨v,h1,h2,h3⟩:=hx
 obtain ⟨w,h4,h5,h6⟩:=hy
 have e:=Rat.natCast_add A B
 have g1:v - w≤((A+B:Nat):Rat):=by rw[e];grind
 have g2 : -((A+B:Nat):Rat)≤v - w:=by rw[e];grind
 obtain ⟨R,q1,q2⟩:=RK h1 h4 (Dd k h) (FE k h) g1 g2
 exact ⟨R,q1,q2.bd h g1 g2⟩
theorem NI {v w A B:Rat} (hA:0≤A) (hB:0≤B) (h1 : -A≤v) (h2:v≤A) (h3 : -B≤w) (h4:w≤B) : -(A * B)≤v * w∧v * w≤A * B:=by
 have key:∀ v w:Rat,0≤v→0≤w→v≤A→w≤B→0≤v * w∧v * w≤A * B:=fun v w a b c d =>
  ⟨Rat.mul_nonneg a b,Rat.le_trans (Rat.mul_le_mul_of_nonneg_right c b) (Rat.mul_le_mul_of_nonneg_left d hA)⟩
 rcases (Rat.le_total:(0:Rat)≤v∨v≤0) with hv | hv <;>rcases (Rat.le_total:(0:Rat)≤w∨w≤0) with hw | hw
 ·have:=key v w hv hw h2 h4;grind
 ·have:=key v (-w) hv (by grind) h2 (by grind);grind
 ·have:=key (-v) w (by grind) hw (by grind) h4;grind
 ·have:=key (-v) (-w) (by grind) (by grind) (by grind) (by grind);grind
theorem Bd.mul {k:FloatKind} {x y A B:Nat} (hx:Bd k x A) (hy:Bd k y B) (h:A * B≤2 * k.format.binade):Bd k (MS k x y) (A * B):=by
 obtain ⟨v,h1,h2,h3⟩:=hx
 obtain ⟨w,h4,h5,h6⟩:=hy
 have e:=Rat.natCast_mul A B
 have hA:(0:Rat)≤(A:Rat):=by exact_mod_cast Nat.zero_le A
 have hB:(0:Rat)≤(B:Rat):=by exact_mod_cast Nat.zero_le B
 obtain ⟨g2,g1⟩:=NI hA hB h2 h3 h5 h6
 rw[← e] at g1 g2
 obtain ⟨R,q1,q2⟩:=OW h1 h4 (Dd k h) (FE k h) g1 g2
 exact ⟨R,q1,q2.bd h g1 g2⟩
theorem Bd.div {k:FloatKind} {x y A:Nat} {w:Rat} (hx:Bd k x A) (hy:DJ k y w) (hw:1≤w) (h:A≤2 * k.format.binade):Bd k (fdiv k x y) A:=by
 obtain ⟨v,h1,h2,h3⟩:=hx
 have hA:(0:Rat)≤(A:Rat):=by exact_mod_cast Nat.zero_le A
 have hw0:w≠0:=by grind
 have hpos:0<w:=by grind
 have hq:v / w * w=v:=Rat.div_mul_cancel hw0
 have hAw:(A:Rat) * 1≤(A:Rat) * w:=Rat.mul_le_mul_of_nonneg_left hw hA
 have g1:v / w≤(A:Rat):=by
  refine Rat.not_lt.1 fun h => ?_
  have:=(Rat.mul_lt_mul_right hpos).2 h
  grind
 have g2 : -(A:Rat)≤v / w:=by
  refine Rat.not_lt.1 fun h => ?_
  have:=(Rat.mul_lt_mul_right hpos).2 h
  grind
 obtain ⟨R,q1,q2⟩:=Q1 h1 hy hw0 (Dd k h) (FE k h) g1 g2
 exact ⟨R,q1,q2.bd h g1 g2⟩
theorem Bd.mono {k:FloatKind} {x A B:Nat} (h:Bd k x A) (hAB:A≤B):Bd k x B:=by
 obtain ⟨v,h1,h2,h3⟩:=h
 have:(A:Rat)≤(B:Rat):=by exact_mod_cast hAB
 exact ⟨v,h1,by grind,by grind⟩
theorem Bd.int {k:FloatKind} {n:Int} {B:Nat} (h:n.natAbs≤B) (hB:B≤2 * k.format.binade):Bd k (k.nearest n) B:=by
 obtain ⟨h1,h2⟩:=L0 (n:=n)
 have:((n.natAbs:Nat):Rat)≤(B:Rat):=by exact_mod_cast h
 exact ⟨_,DR (by omega),by grind,by grind⟩
theorem Bd.toInt {x B:Nat} (h:Bd .f64 x B) (hB:B≤4611686018427387904):∃ n:Int,Eb .f64 x .i64=some n∧n.natAbs≤B:=by
 obtain ⟨v,⟨s,m,i,e1,rfl,-⟩,h2,h3⟩:=h
 have hv:=Ak m i
 have hmv:mv m i≤(B:Rat):=by cases s <;>simp only[D6,Bo] at h2 h3 <;>grind
 have hc:(m <<< i.toNat) / 2 ^ (-i).toNat≤B:=by
  refine Nat.div_le_of_le_mul ?_
  rw[Nat.shiftLeft_eq]
  have h4:mv (m * 2 ^ i.toNat) (-((-i).toNat:Int))≤mv (2 ^ (-i).toNat * B) (-((-i).toNat:Int)):=by
   rw[Nat.mul_comm (2 ^ (-i).toNat),A7,A7]
   rw[show -((-i).toNat:Int)+(i.toNat:Int)=i by omega,show -((-i).toNat:Int)+((-i).toNat:Int)=0 by omega]
   have e0:mv B 0=(B:Rat):=by unfold mv;rw[E4,Rat.mul_one]
   rw[e0];exact hmv
  exact Bm.1 h4
 refine ⟨Ieee.signed s ((m <<< i.toNat) / 2 ^ (-i).toNat) 0,?_,?_⟩
 ·unfold Eb
  rw[e1]
  simp only[Ieee.Datum.toInt,Ieee.Datum.integral,Qj]
  have h5:IntKind.i64.min≤Ieee.signed s ((m <<< i.toNat) / 2 ^ (-i).toNat) 0∧Ieee.signed s ((m <<< i.toNat) / 2 ^ (-i).toNat) 0≤IntKind.i64.max:=by
   have e1:IntKind.i64.min = -9223372036854775808:=by decide
   have e2:IntKind.i64.max=9223372036854775807:=by decide
   rw[e1,e2]
   generalize (m <<< i.toNat) / 2 ^ (-i).toNat=c at *
   unfold Ieee.signed
   simp only[Nat.shiftLeft_zero]
   split <;>omega
  rw[if_pos h5]
 ·generalize (m <<< i.toNat) / 2 ^ (-i).toNat=c at *
  unfold Ieee.signed
  simp only[Nat.shiftLeft_zero]
  split <;>omega
theorem Bd.even {x B:Nat} (h:Bd .f64 x B) (hB:B≤2 * FloatKind.f64.format.binade):Bd .f64 (CT .even x) B:=by
 obtain ⟨v,⟨s,m,i,e1,rfl,-⟩,h2,h3⟩:=h
 have hv:=Ak m i
 have hmv:mv m i≤(B:Rat):=by cases s <;>simp only[D6,Bo] at h2 h3 <;>grind
 have hn:m <<< i.toNat≤B * 2 ^ (-i).toNat:=by
  rw[Nat.shiftLeft_eq]
  have h4:mv (m * 2 ^ i.toNat) (-((-i).toNat:Int))≤mv (B * 2 ^ (-i).toNat) (-((-i).toNat:Int)):=by
   rw[A7,A7]
   rw[show -((-i).toNat:Int)+(i.toNat:Int)=i by omega,show -((-i).toNat:Int)+((-i).toNat:Int)=0 by omega]
   have e0:mv B 0=(B:Rat):=by unfold mv;rw[E4,Rat.mul_one]
   rw[e0];exact hmv
  exact Bm.1 h4
 have hc:=(J8 s (m <<< i.toNat) (-i).toNat B).1 hn
 have e2:CT .even x=FloatKind.f64.encode (.number s (Ieee.Toward.cut .even s (m <<< i.toNat) (-i).toNat) 0):=by
  unfold CT;rw[e1];rfl
 rw[e2]
 generalize Ieee.Toward.cut .even s (m <<< i.toNat) (-i).toNat=c at *
 have hcb:c≤2 * FloatKind.f64.format.binade:=by omega
 have e3:mv c 0=(c:Rat):=by unfold mv;rw[E4,Rat.mul_one]
 have e4:(c:Rat)≤(B:Rat):=by exact_mod_cast hc
 have e5:(0:Rat)≤(c:Rat):=by exact_mod_cast Nat.zero_le c
 obtain ⟨m',e',q1,q2⟩:=NC .f64 s (m:=c) (e:=0) (by rw[e3];exact Dd .f64 hcb) (by rw[e3];exact FE .f64 hcb)
 refine ⟨_,Dv q1,?_,?_⟩ <;>rw[q2,e3] <;>cases s <;>simp only[D6,Bo] <;>grind
theorem Q0 {x:Nat} (h:Ha x=true):DJ .f32 x (fval .f32 x):=by
 obtain ⟨s,m,e,hd⟩:=QC h
 have:=Dv hd
 unfold fval;rw[hd];exact this
theorem DJ.fval {k:FloatKind} {x:Nat} {v:Rat} (h:DJ k x v):Go.Desk.fval k x=v:=by
 obtain ⟨s,m,e,h1,h2,-⟩:=h
 unfold Go.Desk.fval;rw[h1];exact h2.symm
theorem DJ.fin {x:Nat} {v:Rat} (h:DJ .f32 x v):Ha x=true:=by
 obtain ⟨s,m,e,h1,-⟩:=h
 have:=(Ec h1).1
 unfold Ha
 exact decide_eq_true this
theorem QD {x:Nat} {v:Rat} (hx:SX x) (h:DJ .f32 x v):(0≤v→DJ .f32 (Er x) v)∧(v≤0→DJ .f32 (Er x) (-v)):=by
 have hn:=h.num
 obtain ⟨s,m,e,h1,rfl,h2,h3⟩:=h
 have hs:Er x=x % 2147483648:=by unfold Er;rw[hn];rfl
 have h4:FloatKind.f32.decode (Er x) = .number false m e:=by rw[hs];exact NV.1 s m e h1
 have h5:=Dv h4
 have hnn:=Ak m e
 rw[Bo] at h5
 constructor
 ·intro h
  cases s <;>simp only[D6,Bo] at h ⊢
  ·exact h5
  ·have:mv m e=0:=by grind
   rw[this] at h5 ⊢;simpa using h5
 ·intro h
  cases s <;>simp only[D6,Bo] at h ⊢
  ·have:mv m e=0:=by grind
   rw[this] at h5 ⊢;simpa using h5
  ·rw[Rat.neg_neg];exact h5
def GH (x:Nat):Bool:=Ha x&&(x % 2147483648==0||(decide (1031798784≤x % 2147483648)&&decide (x % 2147483648≤1091829760)))
theorem O0:∀ m:Nat,m<129→(GH (fdiv .f32 (FloatKind.f32.nearest ((m:Int) - 64)) 1088421888)&&GH (fdiv .f32 (FloatKind.f32.nearest ((m:Int) - 64)) 1098907648))=true:=by decide +kernel
theorem It.ok {x:Nat} (h:It x):GH x=true:=by
 obtain ⟨m,hm,h⟩:=h
 obtain ⟨k,hk⟩:=Int.eq_ofNat_of_zero_le (show 0≤m+64 by omega)
 have hm':m=(k:Int) - 64:=by omega
 have:=O0 k (by omega)
 rw[← hm',zB] at this
 rcases h with rfl | rfl
 ·exact this.1
 ·exact this.2
theorem It.fin {x:Nat} (h:It x):Ha x=true:=by
 have:=h.ok
 unfold GH at this
 rw[zB] at this
 exact this.1
theorem PG (x:Nat) (s:Bool) (m:Nat) (e:Int) (h:FloatKind.f32.decode x = .number s m e):DJ .f32 x (sg s (mv m e)):=Dv h
theorem It.val {x:Nat} (h:It x):∃ v,DJ .f32 (Er x) v∧(v=0∨1 / 16≤v)∧0≤v∧v≤10∧(fval .f32 x=v∨fval .f32 x = -v):=by
 have hf:=h.fin
 have hok:=h.ok
 have hw:=h.w32
 have hv:=Q0 hf
 obtain ⟨s1,s2⟩:=QD hw hv
 have hn:=Og hf
 have hs:Er x=x % 2147483648:=by unfold Er;rw[hn];rfl
 have hex:∃ v,DJ .f32 (Er x) v∧0≤v∧(fval .f32 x=v∨fval .f32 x = -v):=by
  rcases (Rat.le_total:(0:Rat)≤fval .f32 x∨fval .f32 x≤0) with h1 | h1
  ·exact ⟨_,s1 h1,h1,.inl rfl⟩
  ·exact ⟨_,s2 h1,by grind,.inr (by grind)⟩
 obtain ⟨v,q1,q2,q3⟩:=hex
 refine ⟨v,q1,?_,q2,?_,q3⟩
 ·unfold GH at hok
  simp only[zB,Bool.or_eq_true,beq_iff_eq,decide_eq_true_eq] at hok
  rcases hok.2 with h0 | ⟨h1,-⟩
  ·rw[← hs] at h0
   rw[h0] at q1
   exact .inl (q1.inj (Qd .f32))
  ·refine .inr ?_
   have hc:DJ .f32 1031798784 (1 / 16):=by
    have:=PG 1031798784 false (2 ^ 23) (-27) (by decide)
    rw[Bo,Cn] at this
    have e:p2 (-27+((23:Nat):Int)) * 16=1:=by
     have h4:=Hz (-27+((23:Nat):Int)) 4
     have h16:p2 4=16:=by have:=Lh 4;rw[show ((4:Nat):Int)=4 from rfl] at this;rw[this];rfl
     rw[h16] at h4;rw[← h4,show (-27:Int)+((23:Nat):Int)+4=0 by decide,E4]
    have e2:p2 (-27+((23:Nat):Int))=1 / 16:=by grind
    rw[e2] at this;exact this
   have:=(RL q1 hc).1 (by
    rw[RB];unfold M5
    rw[q1.num,hc.num,Oq (by omega),Oq (by omega),if_pos (by omega),if_pos (by omega)]
    simp;omega)
   exact this
 ·unfold GH at hok
  simp only[zB,Bool.or_eq_true,beq_iff_eq,decide_eq_true_eq] at hok
  have hle:x % 2147483648≤1091829760:=by rcases hok.2 with h0 | ⟨-,h1⟩ <;>omega
  have hc:DJ .f32 1092616192 10:=by
   have:=DR (k:=.f32) (n:=10) (by decide)
   rwa [show FloatKind.f32.nearest 10=1092616192 by decide] at this
  refine (RJ q1 hc).1 ?_
  rw[Rd];unfold M5
  rw[q1.num,hc.num,Oq (by omega),Oq (by omega),if_pos (by omega),if_pos (by omega)]
  simp;omega
theorem Mk:2 * FloatKind.f32.format.binade=16777216:=by decide
theorem Q8 {a b:Int} (ha:a.natAbs≤16777216) (hb:b.natAbs≤16777216) (hab:(a * b).natAbs≤16777216) (h0:a * b≠0):MS .f32 (FloatKind.f32.nearest a) (FloatKind.f32.nearest b)=FloatKind.f32.nearest (a * b):=by
 have b32:2 * FloatKind.f32.format.binade=16777216:=Mk
 have va:=DR (k:=.f32) (n:=a) (by rw[b32];exact ha)
 have vb:=DR (k:=.f32) (n:=b) (by rw[b32];exact hb)
 have hab':(a * b).natAbs≤2 * FloatKind.f32.format.binade:=by rw[b32];exact hab
 have hv:(a:Rat) * (b:Rat)=((a * b:Int):Rat):=(Rat.intCast_mul _ _).symm
 obtain ⟨h1,h2⟩:=L0 (n:=a * b)
 obtain ⟨R,h3,h4⟩:=OW va vb (Dd .f32 hab') (FE .f32 hab') (by rw[hv];exact h1) (by rw[hv];exact h2)
 rw[hv] at h4
 have h5:=h3.near_eq h4 (Ov hab')
 exact Ii (RW _ _ _) (KH _ _) h5 (DR hab') (by exact_mod_cast h0)
theorem Mr:FloatKind.f32.nearest 1=1065353216:=by decide
theorem one_mul {a:Int} (h : -1000000≤a∧a≤1000000):MS .f32 1065353216 (FloatKind.f32.nearest a)=FloatKind.f32.nearest a:=by
 by_cases h0:a=0
 ·subst h0;decide
 ·have:=Q8 (a:=1) (b:=a) (by decide) (by omega) (by omega) (by omega)
  rw[Mr,Int.one_mul] at this
  exact this
theorem LK {a:Int} (h : -1000000≤a∧a≤1000000):a.natAbs≤2 * FloatKind.f32.format.binade:=by
 rw[show 2 * FloatKind.f32.format.binade=16777216 from Mk];omega
theorem add_zero {a:Int} (h : -1000000≤a∧a≤1000000):Ke .f32 (FloatKind.f32.nearest a) 0=FloatKind.f32.nearest a:=by
 have:=Q7 (k:=.f32) (a:=a) (b:=0) (LK h) (by decide) (by simpa using LK h)
 rw[E1] at this
 simpa using this
end Go.Desk
namespace Go.Desk
open Go
end Go.Desk
end
section
namespace Go.Proofs
open Go.Shelf
def Tryd.laysM173_ren:Go.Shelf.Ren:=⟨fun | 173=>57 | 246=>80 | 283=>98 | 284=>99 | 285=>100 | 286=>101 | 129=>117 | 317=>116 | 318=>118 | 319=>119 | 320=>120 | 337=>135 | 338=>136 | n=>n,fun | 2=>2 | 3=>3 | 9=>9 | 4=>4 | 171=>136 | 0=>0 | 53=>95 | 37=>32 | 5=>5 | 173=>139 | 212=>161 | 51=>129 | 20=>20 | 213=>162 | 46=>114 | 232=>182 | 233=>183 | n=>n,fun | 17=>2 | 18=>5 | 19=>6 | n=>n⟩
theorem Tryd.laysM173:Go.Proofs.LaysM.n173 Tryd.prog Tryd.laysM173_ren:={
 mixed:=by kernel_rfl
 f129:=Tryd.func117.trans (congrArg some (by kernel_rfl))
 f173:=Tryd.func57.trans (congrArg some (by kernel_rfl))
 f246:=Tryd.func80.trans (congrArg some (by kernel_rfl))
 f283:=Tryd.func98.trans (congrArg some (by kernel_rfl))
 f284:=Tryd.func99.trans (congrArg some (by kernel_rfl))
 f285:=Tryd.func100.trans (congrArg some (by kernel_rfl))
 f286:=Tryd.func101.trans (congrArg some (by kernel_rfl))
 f317:=Tryd.func116.trans (congrArg some (by kernel_rfl))
 f318:=Tryd.func118.trans (congrArg some (by kernel_rfl))
 f319:=Tryd.func119.trans (congrArg some (by kernel_rfl))
 f320:=Tryd.func120.trans (congrArg some (by kernel_rfl))
 f337:=Tryd.func135.trans (congrArg some (by kernel_rfl))
 f338:=Tryd.func136.trans (congrArg some (by kernel_rfl))
 t0:=Tryd.underlying0
 a0:=Tryd.isAgg0
 z0:=Tryd.sizeOf0
 v0:=Tryd.zeroValue0
 t2:=Tryd.underlying2
 a2:=Tryd.isAgg2
 z2:=Tryd.sizeOf2
 v2:=Tryd.zeroValue2
 t3:=Tryd.underlying3
 a3:=Tryd.isAgg3
 z3:=Tryd.sizeOf3
 v3:=Tryd.zeroValue3
 t4:=Tryd.underlying4
 a4:=Tryd.isAgg4
 z4:=Tryd.sizeOf4
 v4:=Tryd.zeroValue4
 t5:=Tryd.underlying5
 a5:=Tryd.isAgg5
 z5:=Tryd.sizeOf5
 v5:=Tryd.zeroValue5
 t9:=Tryd.underlying9
 a9:=Tryd.isAgg9
 z9:=Tryd.sizeOf9
 v9:=Tryd.zeroValue9
 t20:=Tryd.underlying20
 a20:=Tryd.isAgg20
 z20:=Tryd.sizeOf20
 v20:=Tryd.zeroValue20
 t37:=Tryd.underlying32
 a37:=Tryd.isAgg32
 z37:=Tryd.sizeOf32
 v37:=Tryd.zeroValue32
 t46:=Tryd.underlying114
 a46:=Tryd.isAgg114
 z46:=Tryd.sizeOf114
 v46:=Tryd.zeroValue114
 t51:=Tryd.underlying129
 a51:=Tryd.isAgg129
 z51:=Tryd.sizeOf129
 v51:=Tryd.zeroValue129
 t53:=Tryd.underlying95
 a53:=Tryd.isAgg95
 z53:=Tryd.sizeOf95
 v53:=Tryd.zeroValue95
 t171:=Tryd.underlying136
 a171:=Tryd.isAgg136
 z171:=Tryd.sizeOf136
 v171:=Tryd.zeroValue136
 t173:=Tryd.underlying139
 a173:=Tryd.isAgg139
 z173:=Tryd.sizeOf139
 v173:=Tryd.zeroValue139
 t212:=Tryd.underlying161
 a212:=Tryd.isAgg161
 z212:=Tryd.sizeOf161
 v212:=Tryd.zeroValue161
 t213:=Tryd.underlying162
 a213:=Tryd.isAgg162
 z213:=Tryd.sizeOf162
 t232:=Tryd.underlying182
 a232:=Tryd.isAgg182
 z232:=Tryd.sizeOf182
 v232:=Tryd.zeroValue182
 t233:=Tryd.underlying183
 a233:=Tryd.isAgg183
 z233:=Tryd.sizeOf183
 v233:=Tryd.zeroValue183
 g17:=by kernel_rfl
 g18:=by kernel_rfl
 g19:=by kernel_rfl
 i0:=by kernel_rfl
 i2:=by kernel_rfl
 i3:=by kernel_rfl
 i4:=by kernel_rfl
 i5:=by kernel_rfl
 i9:=by kernel_rfl
 i20:=by kernel_rfl
 i37:=by kernel_rfl
 i46:=by kernel_rfl
 i51:=by kernel_rfl
 i53:=by kernel_rfl
 i171:=by kernel_rfl
 i173:=by kernel_rfl
 i212:=by kernel_rfl
 i232:=by kernel_rfl
 i233:=by kernel_rfl
 m17:=by kernel_rfl
 m18:=by kernel_rfl
 m19:=by kernel_rfl }
open Go.RowKit Go.Sort Go.Lib in
theorem Tryd.strconv_FormatInt_10 (n : Int) (h0 : -9223372036854775808 ≤ n) (h1 : n ≤ 9223372036854775807) (w : World) (htab : Lib.TabIs Tryd.prog w "internal/strconv.uint64pow10" .u64 Lib.pow10Tab) :
  Calls Tryd.prog 57 #[.int .i64 n,.int .i64 10] w fun e w'=>e = .returned (.string ⟨(Lib.itoa n).toArray⟩)∧∃ k os,w'=grow (w.drewN k) os:=Any.strconv_FormatInt_10 Tryd.laysM173 n h0 h1 w htab
def Tryd.lays145_ren:Go.Shelf.Ren:=⟨fun | 145=>37 | 220=>59 | 219=>78 | 217=>91 | 225=>95 | 224=>96 | 267=>97 | 266=>109 | 314=>115 | n=>n,fun | 9=>9 | 4=>4 | 59=>69 | 3=>3 | 5=>5 | 46=>114 | 146=>158 | 51=>129 | n=>n,fun | 1=>0 | n=>n⟩
theorem Tryd.lays145:Go.Proofs.Lays.n145 Tryd.prog Tryd.lays145_ren:={
 mixed:=by kernel_rfl
 f145:=Tryd.func37.trans (congrArg some (by kernel_rfl))
 f217:=Tryd.func91.trans (congrArg some (by kernel_rfl))
 f219:=Tryd.func78.trans (congrArg some (by kernel_rfl))
 f220:=Tryd.func59.trans (congrArg some (by kernel_rfl))
 f224:=Tryd.func96.trans (congrArg some (by kernel_rfl))
 f225:=Tryd.func95.trans (congrArg some (by kernel_rfl))
 f266:=Tryd.func109.trans (congrArg some (by kernel_rfl))
 f267:=Tryd.func97.trans (congrArg some (by kernel_rfl))
 f314:=Tryd.func115.trans (congrArg some (by kernel_rfl))
 t3:=Tryd.underlying3
 a3:=Tryd.isAgg3
 z3:=Tryd.sizeOf3
 v3:=Tryd.zeroValue3
 t4:=Tryd.underlying4
 a4:=Tryd.isAgg4
 z4:=Tryd.sizeOf4
 v4:=Tryd.zeroValue4
 t5:=Tryd.underlying5
 a5:=Tryd.isAgg5
 z5:=Tryd.sizeOf5
 v5:=Tryd.zeroValue5
 t9:=Tryd.underlying9
 a9:=Tryd.isAgg9
 z9:=Tryd.sizeOf9
 v9:=Tryd.zeroValue9
 t46:=Tryd.underlying114
 a46:=Tryd.isAgg114
 z46:=Tryd.sizeOf114
 v46:=Tryd.zeroValue114
 t51:=Tryd.underlying129
 a51:=Tryd.isAgg129
 z51:=Tryd.sizeOf129
 v51:=Tryd.zeroValue129
 t59:=Tryd.underlying69
 a59:=Tryd.isAgg69
 z59:=Tryd.sizeOf69
 v59:=Tryd.zeroValue69
 t146:=Tryd.underlying158
 a146:=Tryd.isAgg158
 z146:=Tryd.sizeOf158
 v146:=Tryd.zeroValue158
 g1:=by kernel_rfl }
open Go.RowKit Go.Lib in
theorem Tryd.strings_Cut (s sep:ByteArray) (m:Int) (w:World) (hs:s.size<4294967281) (hm:w.cell? ⟨0,0,none⟩=some (.int .i64 m)) :
  Calls Tryd.prog 37 #[.string s,.string sep] w fun e w'=>e = .returned (.tuple #[.string ⟨(Lib.cut s.data.toList sep.data.toList).1.toArray⟩,.string ⟨(Lib.cut s.data.toList sep.data.toList).2.1.toArray⟩,.bool (Lib.cut s.data.toList sep.data.toList).2.2])∧∃ n,w'=w.drewN n:=Any.strings_Cut Tryd.lays145 s sep m w hs hm
end Go.Proofs
end
section
namespace Go.Proofs.YtokonabdnlckdaaDoor.DS
open Go Go.Desk Go.Shelf Go.RowKit Go.Lib Go.Sort
set_option linter.unusedVariables false
theorem RG (xs:Array Value) (w:World):(callFunc 37 xs).run Tryd.prog w = .ok (.enter 37 xs) w:=by
 have h1 : Tryd.f37.name ≠ "runtime.NumGoroutine" := by
  have h : (Tryd.f37.name == "runtime.NumGoroutine") = false := by kernel_rfl
  simpa using h
 obtain ⟨c,hc⟩:=Option.isSome_iff_exists.1 (show Tryd.f37.body.isSome=true by kernel_rfl)
 simp[callFunc,Tryd.func37,h1,hc]
theorem ok37 {E : AX} (hL : "internal/bytealg.MaxLen" ∈ E.laid) : Dk Tryd.prog E 37 (.ext (CM NE)) :=
 Jg (RM RG (by kernel_rfl) hL fun s sep m w hs hm=>Tryd.strings_Cut s sep m w hs hm)
theorem RN (xs:Array Value) (w:World):(callFunc 57 xs).run Tryd.prog w = .ok (.enter 57 xs) w:=by
 have h1 : Tryd.f57.name ≠ "runtime.NumGoroutine" := by
  have h : (Tryd.f57.name == "runtime.NumGoroutine") = false := by kernel_rfl
  simpa using h
 obtain ⟨c,hc⟩:=Option.isSome_iff_exists.1 (show Tryd.f57.body.isSome=true by kernel_rfl)
 simp[callFunc,Tryd.func57,h1,hc]
theorem ok57 {E : AX} (hL : "internal/strconv.uint64pow10" ∈ E.laid) : Dk Tryd.prog E 57 (.ext (CM D5)) :=
 Jg (OI RN (by kernel_rfl) hL fun n h0 h1 w htab=>Tryd.strconv_FormatInt_10 n h0 h1 w htab)
end Go.Proofs.YtokonabdnlckdaaDoor.DS
end
section
namespace Go.Proofs.YtokonabdnlckdaaDoor.DN
open Go Go.Desk
noncomputable def CF (f:Func):Code:=match f.body with
 | some c=>c
 | none => .skip
noncomputable def Ni:List (Nat × TD):=[
 (3,⟨false,1,8,[.leaf],[.int .i64 0],.int .i64⟩),
 (4,⟨false,1,1,[.leaf],[.bool false],.bool⟩),
 (5,⟨false,1,1,[.leaf],[.int .u8 0],.int .u8⟩),
 (9,⟨false,1,16,[.leaf],[.str []],.str⟩),
 (22,⟨false,1,24,[.sl .own [.leaf]],[.lst 0 []],.slc 9⟩)]
noncomputable def Sy:Code:=CF Tryd.f58
noncomputable def Fq:List (Nat × FD):=[
 (58,.code Sy [.val,.val] [] [(4,none)] [(0,[0,1]),(1,[0,1]),(2,[0,1,5]),(3,[0,1,5,6]),(4,[0,1,5,6,7]),(5,[0,1,5,6,7]),(6,[0,1,5,6,7]),(7,[0,1,5,6,7]),(8,[0,1,5,7]),(9,[5]),(1000004,[5])])]
noncomputable def E:AX:=⟨fun t=>Jr Ni t,GU Fq,[]⟩
noncomputable def EF (n:Nat):FD:=match GU Fq n with
 | some d=>d
 | none => .ext fun _=>none
noncomputable def Dj (n:Nat):List (Nat × List Nat):=match GU Fq n with
 | some d=>d.keep
 | none=>[]
theorem tysOk:Bw Tryd.prog E:=M3 (l:=Ni) (fun _=>rfl) (by kernel_rfl)
theorem TJ:Dk Tryd.prog E 58 (EF 58):=JE (c:=Sy) (modes:=(EF 58).ms) (outs:=(EF 58).os) (results:=(EF 58).rs) (keep:=(EF 58).keep) Tryd.func58 (by kernel_rfl) (by kernel_rfl) (by kernel_rfl)
theorem OC:ID Tryd.prog E Fq:=.cons TJ (.nil)
theorem fnOk:∀ f fd,E.fn f=some fd→Dk Tryd.prog E f fd:=NF (l:=Fq) (fun _=>rfl) OC
end Go.Proofs.YtokonabdnlckdaaDoor.DN
section
namespace Go.Proofs.YtokonabdnlckdaaDoor.DN
open Go Go.Desk
set_option linter.unusedVariables false
noncomputable def f58.l0 (n:Nat):Nat→List UInt8→Int→Nat→List T→Int→Int→Option (Nat × List T)
 | 0,_,_,_,_,_,_=>none
 | m+1,s1,i2,n3,l4,i5,i6 =>
   br (decide (i6≤(((List.length s1):Nat):Int))) (
    br (i6==(((List.length s1):Nat):Int)) (
     gd (decide (((0:Int)≤i5)∧((i5≤i6)∧(i6≤(((List.length s1):Nat):Int))))) (
     gd (Nat.ble (n3+1) 2147483648) (
     let n7:Nat:=(n3+1)
     let l8:List T:=(l4++(Aj (reps 1 [(T.str [])]) 0 [(T.str (List.take ((Int.toNat i6) - (Int.toNat i5)) (List.drop (Int.toNat i5) s1)))]))
     let i9:Int:=(IntKind.i64.wrap (i6+(1:Int)))
     f58.l0 n m s1 i2 n7 l8 i9 (IntKind.i64.wrap (i6+(1:Int)))))) (
     gd (decide (((0:Int)≤i6)∧(i6<(((List.length s1):Nat):Int)))) (
     br ((EI s1 (Int.toNat i6))==i2) (
      gd (decide (((0:Int)≤i5)∧((i5≤i6)∧(i6≤(((List.length s1):Nat):Int))))) (
      gd (Nat.ble (n3+1) 2147483648) (
      let n10:Nat:=(n3+1)
      let l11:List T:=(l4++(Aj (reps 1 [(T.str [])]) 0 [(T.str (List.take ((Int.toNat i6) - (Int.toNat i5)) (List.drop (Int.toNat i5) s1)))]))
      let i12:Int:=(IntKind.i64.wrap (i6+(1:Int)))
      f58.l0 n m s1 i2 n10 l11 i12 (IntKind.i64.wrap (i6+(1:Int)))))) (
      f58.l0 n m s1 i2 n3 l4 i5 (IntKind.i64.wrap (i6+(1:Int))))))) (
    some (n3,l4))
noncomputable def f58:Nat→List UInt8→Int→Option (Nat × List T)
 | 0,_,_=>none
 | n+1,s1,i2 =>
   bd (f58.l0 n n s1 i2 0 (reps 0 [(T.str [])]) (0:Int) (0:Int)) fun r3 =>
   let n4:Nat:=r3.1
   let l5:List T:=r3.2
   some (n4,l5)
noncomputable def sg_si:Ds (List UInt8 × Int) where
 pk:=fun v=>[.str v.1,.int v.2]
 up:=fun ls=>match ls with
  | [.str a0,.int a1]=>some (a0,a1)
  | _=>none
 ok:=by
  intro ls v h
  split at h
  ·cases h;rfl
  ·cases h
noncomputable def Sf:Ds (Nat × List T) where
 pk:=fun v=>[.lst v.1 v.2]
 up:=fun ls=>match ls with
  | [.lst a0 a1]=>some (a0,a1)
  | _=>none
 ok:=by
  intro ls v h
  split at h
  ·cases h;rfl
  ·cases h
noncomputable def NU:Ds (List UInt8 × Int × Nat × List T × Int × Int) where
 pk:=fun v=>[.str v.1,.int v.2.1,.lst v.2.2.1 v.2.2.2.1,.int v.2.2.2.2.1,.int v.2.2.2.2.2]
 up:=fun ls=>match ls with
  | [.str a0,.int a1,.lst a2 a3,.int a4,.int a5]=>some (a0,a1,a2,a3,a4,a5)
  | _=>none
 ok:=by
  intro ls v h
  split at h
  ·cases h;rfl
  ·cases h
noncomputable def f58.l0.P:AS:=⟨[(0,.val false [.leaf] [.str []] [] 0),(1,.val false [.leaf] [.int .u8 0] [] 0),(5,.val false [.sl .own [.leaf]] [.lst 0 []] [] 0),(6,.val false [.leaf] [.int .i64 0] [] 0),(7,.val false [.leaf] [.int .i64 0] [] 0)],0⟩
noncomputable def f58.l0.A:K0 (Nat × List T):=.one (.exit 0) ⟨[(5,.val false [.sl .own [.leaf]] [.lst 0 []] [] 0)],0⟩ Sf
noncomputable def f58.l0.F (n m:Nat) (v:List UInt8 × Int × Nat × List T × Int × Int):=f58.l0 n m v.1 v.2.1 v.2.2.1 v.2.2.2.1 v.2.2.2.2.1 v.2.2.2.2.2
noncomputable def f58.l0.W (n:Nat):Nl:=.of 64 f58.l0.P NU f58.l0.A (f58.l0.F n n)
noncomputable def f58.P:List Am:=[⟨.val,⟨false,[.leaf],[.str []]⟩⟩,⟨.val,⟨false,[.leaf],[.int .u8 0]⟩⟩]
noncomputable def f58.A:DC (Nat × List T):=.one ⟨[⟨false,[.sl .own [.leaf]],[.lst 0 []]⟩],[none,none]⟩ Sf
noncomputable def f58.F (n:Nat) (v:List UInt8 × Int):=f58 n v.1 v.2
noncomputable def f58.O (n:Nat):FV:=DK (E:=E) [] [f58.l0.W n] n
theorem f58.l0.ok (n:Nat):Fu (f58.O n) E (AM E n) n (Dj 58) (.loop (BQ Sy 0)) :=
 Ou f58.l0.P NU f58.l0.A (f58.l0.F n) (HS _ _ n) (I5 (bs:=[]) (by kernel_rfl) .nil) (fun _=>rfl) (fun _ _=>by kernel_rfl) (fun _ _ _=>by kernel_rfl)
theorem f58.ok:∀ n v x,f58.F n v=some x→AM E n 58 (Cr f58.P (sg_si.pk v))=some (f58.A.enc x) :=
 Of (modes:=(EF 58).ms) (outs:=(EF 58).os) (results:=(EF 58).rs) f58.O (c:=Sy) (keep:=Dj 58) (by kernel_rfl) (fun n=>HS _ _ n) (fun n=>I5 (bs:=[BQ Sy 0]) (by kernel_rfl) (.cons (f58.l0.ok n) .nil)) (fun _=>rfl) (fun _ _=>by kernel_rfl)
noncomputable def f58.w:D1 E:=FW 58 f58.P sg_si f58.A f58.F f58.ok
end Go.Proofs.YtokonabdnlckdaaDoor.DN
end
namespace Go.Proofs.YtokonabdnlckdaaDoor.DN
open Go Go.Desk Go.Shelf Go.RowKit Go.Lib Go.Sort
set_option linter.unusedVariables false
theorem Sl (i:Nat) (h:i<1000001):IntKind.i64.wrap ((i:Int)+(1:Int))=((i+1:Nat):Int):=by
 have e:((i:Int)+1) % 2 ^ 64=((i+1:Nat):Int):=by
  rw[Int.emod_eq_of_lt (by omega) (by omega)];omega
 simp only[IntKind.wrap,IntKind.bits,IntKind.signed,e]
 rw[if_neg]
 simp
 omega
theorem MK (n:Nat) (s:List UInt8) (hs:s.length<1000000):∀ (m i:Nat) (acc:List (List UInt8)) (p:List UInt8),s.length+2≤m+i→i≤s.length→p.length≤i→acc.length≤i - p.length→(s.drop (i - p.length)).take p.length=p→(10:UInt8) ∉ p →
  f58.l0 n m s 10 acc.length (acc.map T.str) ((i - p.length:Nat):Int) (i:Int)=some ((acc++AZ 10 (p++s.drop i)).length,(acc++AZ 10 (p++s.drop i)).map T.str)
 | 0,i,acc,p,h,h1,h2,h3,h4,h5=>by omega
 | m+1,i,acc,p,h,h1,h2,h3,h4,h5=>by
   have hle:((i:Int)≤((s.length:Nat):Int)):=by omega
   have hpush:∀ q,(acc.map T.str)++Aj (reps 1 [T.str []]) 0 [T.str q]=(acc++[q]).map T.str:=fun q=>by simp[Aj,reps]
   have hcut:List.take ((Int.toNat (i:Int)) - (Int.toNat ((i - p.length:Nat):Int))) (List.drop (Int.toNat ((i - p.length:Nat):Int)) s)=p:=by
    simp only[zT]
    rw[show i - (i - p.length)=p.length by omega];exact h4
   have hb:Nat.ble (acc.length+1) 2147483648=true:=by rw[Nat.ble_eq];omega
   have hd:decide (((0:Int)≤((i - p.length:Nat):Int))∧((((i - p.length:Nat):Int)≤(i:Int))∧((i:Int)≤(((List.length s):Nat):Int))))=true:=by
    rw[decide_eq_true_iff];omega
   have hw:=Sl i (by omega)
   rw[f58.l0]
   rw[decide_eq_true hle]
   rcases Nat.lt_or_ge i s.length with hlt | hge
   ·have he:((i:Int)==((s.length:Nat):Int))=false:=by
     rw[beq_eq_false_iff_ne];omega
    have hd2:decide (((0:Int)≤(i:Int))∧((i:Int)<(((List.length s):Nat):Int)))=true:=by rw[decide_eq_true_iff];omega
    have hdrop:s.drop i=s[i]::s.drop (i+1):=drop_eq_getElem_cons hlt
    have hby:EI s (Int.toNat (i:Int))=(s[i].toNat:Int):=by
     simp only[zT,EI,List.getElem?_eq_getElem hlt]
    rw[he,hd2,hby,hd]
    simp only[br,gd,hcut,hpush,hb,hw]
    by_cases hc:s[i]=10
    ·have h10:(((s[i].toNat:Nat):Int)==10)=true:=by rw[hc];rfl
     rw[h10]
     have ih:=MK n s hs m (i+1) (acc++[p]) [] (by omega) (by omega) (by simp) (by simp;omega) (by simp) (by simp)
     simp only[length_nil,Nat.sub_zero,nil_append,length_append,length_cons,Nat.zero_add] at ih
     rw[hdrop,hc,Jk h5]
     have e9:acc.length+1+(AZ 10 (List.drop (i+1) s)).length=acc.length+((AZ 10 (List.drop (i+1) s)).length+1):=by omega
     simpa [append_assoc,e9] using ih
    ·have h10:(((s[i].toNat:Nat):Int)==10)=false:=by
      rw[beq_eq_false_iff_ne]
      intro e
      exact hc (UInt8.toNat_inj.1 (by show s[i].toNat=10;omega))
     rw[h10]
     have ih:=MK n s hs m (i+1) acc (p++[s[i]]) (by omega) (by omega) (by simp;omega) (by simp;omega) (by
      rw[length_append,length_cons,length_nil,Nat.zero_add,show i+1 - (p.length+1)=i - p.length by omega,List.take_add_one,h4]
      rw[List.getElem?_drop,show i - p.length+p.length=i by omega,List.getElem?_eq_getElem hlt]
      rfl) (by
      simp only[mem_append,mem_singleton,not_or]
      exact ⟨h5,fun e=>hc e.symm⟩)
     rw[show i+1 - (p++[s[i]]).length=i - p.length by rw[length_append,length_cons,length_nil];omega] at ih
     rw[hdrop]
     simpa [append_assoc] using ih
   ·obtain rfl:i=s.length:=by omega
    have he:((s.length:Int)==((s.length:Nat):Int))=true:=by rw[beq_iff_eq]
    rw[he,hd]
    simp only[br,gd,hcut,hpush,hb,hw]
    rw[List.drop_length,append_nil,LC h5]
    cases m with
    | zero=>omega
    | succ m =>
      rw[f58.l0]
      have:decide (((s.length+1:Nat):Int)≤((s.length:Nat):Int))=false:=by rw[decide_eq_false_iff_not];omega
      rw[this]
      simp only[br,length_append,length_cons,length_nil]
theorem Pj (s:List UInt8) (hs:s.length<1000000):f58 (s.length+3) s 10=some ((AZ 10 s).length,(AZ 10 s).map T.str):=by
 rw[f58]
 have:=MK (s.length+2) s hs (s.length+2) 0 [] [] (by omega) (by omega) (by simp) (by simp) (by simp) (by simp)
 simp only[length_nil,Nat.sub_zero,nil_append,drop_zero,map_nil] at this
 show bd (f58.l0 (s.length+2) (s.length+2) s 10 0 [] 0 0) _=_
 rw[show ((0:Nat):Int)=0 from rfl] at this
 rw[this]
 rfl
theorem Oz (w:World) (s last:ByteArray) (n:Nat) (Q:Nat→Nat→Nat→World→Prop)
  (hc:Calls Tryd.prog 58 #[.string s,.int .u8 10] w fun e w'=>∃ b off cap,e = .returned (.slice (some ⟨b,off,none⟩) (n+1) cap)∧n+1≤cap∧w'.cell? ⟨b,off+n,none⟩=some (.string last)∧Q b off cap w')
  (hQ:∀ b off cap w' q,Q b off cap w'→Q b off cap (w'.drewN q)) (hn:n<1000000) :
  Calls Tryd.prog 34 #[.string s] w fun e w'=>∃ b off cap,e = .returned (.tuple #[.slice (some ⟨b,off,none⟩) n cap,.string last])∧Q b off cap w' :=by
 have e0:IntKind.i64.wrap (((n+1:Nat):Int) - 1)=(n:Int):=by
  rw[show ((n+1:Nat):Int) - 1=(n:Int) by omega]
  have e:(n:Int) % 2 ^ 64=(n:Int):=Int.emod_eq_of_lt (by omega) (by omega)
  simp only[IntKind.wrap,IntKind.bits,IntKind.signed,e]
  rw[if_neg]
  simp
  omega
 have e1:(n:Int)<((n+1:Nat):Int):=by omega
 have e2:(0:Int)≤(n:Int):=by omega
 go_enter Tryd.func34,Tryd.ntmps34
 go_wp2_with (go_at_call 58;refine hc.mono ?_;rintro e w' ⟨b,off,cap,rfl,hcap,hcell,hq⟩)
 have e3:(n:Int)≤(cap:Int):=by omega
 go_quiet (fail)
 go_wp2
 go_ret2
 exact ⟨b,off,cap,rfl,hQ _ _ _ _ _ hq⟩
theorem R0 (xs:Array Value) (w:World):(callFunc 34 xs).run Tryd.prog w = .ok (.enter 34 xs) w:=by
 have h1 : Tryd.f34.name ≠ "runtime.NumGoroutine" := by
  have h : (Tryd.f34.name == "runtime.NumGoroutine") = false := by kernel_rfl
  simpa using h
 obtain ⟨c,hc⟩:=Option.isSome_iff_exists.1 (show Tryd.f34.body.isSome=true by kernel_rfl)
 simp[callFunc,Tryd.func34,h1,hc]
theorem Rx (xs:Array Value) (w:World):(callFunc 58 xs).run Tryd.prog w = .ok (.enter 58 xs) w:=by
 have h1 : Tryd.f58.name ≠ "runtime.NumGoroutine" := by
  have h : (Tryd.f58.name == "runtime.NumGoroutine") = false := by kernel_rfl
  simpa using h
 obtain ⟨c,hc⟩:=Option.isSome_iff_exists.1 (show Tryd.f58.body.isSome=true by kernel_rfl)
 simp[callFunc,Tryd.func58,h1,hc]
theorem linesOk {L:List String}:FnOk Tryd.prog L (fun _ l=>Ev l) 34 :=
 Pk (g:=58) ⟨R0,Rx,Oz⟩ fun s hs=>⟨by have:=HX 10 s;omega,AM E (s.length+3),FnOk.any (K2 Tryd.checked.mixed tysOk fnOk (s.length+3) 58),f58.ok (s.length+3) (s,10) _ (Pj s hs)⟩
end Go.Proofs.YtokonabdnlckdaaDoor.DN
end
noncomputable section
namespace Go.Proofs.YtokonabdnlckdaaDoor.D
open Go Go.Desk
noncomputable def CF (f:Func):Code:=match f.body with
 | some c=>c
 | none => .skip
noncomputable def Ni:List (Nat × TD):=[
 (2,⟨false,1,8,[.leaf],[.int .i64 0],.int .i64⟩),
 (3,⟨false,1,8,[.leaf],[.int .i64 0],.int .i64⟩),
 (4,⟨false,1,1,[.leaf],[.bool false],.bool⟩),
 (5,⟨false,1,1,[.leaf],[.int .u8 0],.int .u8⟩),
 (9,⟨false,1,16,[.leaf],[.str []],.str⟩),
 (22,⟨false,1,24,[.sl .own [.leaf]],[.lst 0 []],.slc 9⟩),
 (32,⟨false,1,24,[.sl .own [.leaf]],[.lst 0 []],.slc 5⟩)]
noncomputable def c4:Code:=CF Tryd.f4
noncomputable def Si:Code:=CF Tryd.f11
noncomputable def SS:Code:=CF Tryd.f12
noncomputable def Sw:Code:=CF Tryd.f13
noncomputable def S7:Code:=CF Tryd.f14
noncomputable def Sk:Code:=CF Tryd.f15
noncomputable def Sj:Code:=CF Tryd.f29
noncomputable def Td:Code:=CF Tryd.f31
noncomputable def Sq:Code:=CF Tryd.f35
noncomputable def S6:Code:=CF Tryd.f36
noncomputable def TM:Code:=CF Tryd.f38
noncomputable def Sp:Code:=CF Tryd.f39
noncomputable def TV:Code:=CF Tryd.f55
noncomputable def Fq:List (Nat × FD):=[
 (4,.code c4 [.val] [] [(2,none)] [(0,[0]),(1,[0]),(2,[]),(3,[0]),(4,[0,3,4,5]),(5,[0,3,4,5,6,7,8]),(6,[]),(7,[0,3,4,5,6]),(8,[0,3,4,5,6,9]),(9,[0,3,4,5,6,9]),(10,[0,3,4,5,6,9,10]),(11,[0,3,4,5,6,9,10]),(12,[]),(13,[0,3,4,5,6,9,10]),(14,[]),(15,[0,3,4,5,6,9]),(16,[3,4,5,6,9,11,12,13]),(17,[]),(18,[6,9]),(19,[6,9,10]),(20,[9,10]),(21,[]),(22,[9,10]),(23,[]),(24,[])]),
 (11,.code Si [.val,.val] [] [(4,none)] [(0,[0,1]),(1,[0,1]),(2,[]),(3,[0,1]),(4,[0,1,5]),(5,[0,1,5]),(6,[0,1,5]),(7,[]),(8,[]),(1000004,[4])]),
 (12,.code SS [.val] [] [(2,none),(3,none),(4,none)] [(0,[0]),(1,[0]),(2,[]),(3,[0]),(4,[5]),(5,[5,7]),(6,[5,7,8]),(7,[5,7,8,9]),(8,[5,7,8,9,10]),(9,[5,7,8,9,10]),(10,[5,7,8,9,10]),(11,[5,7,8,9,10,11]),(12,[5,7,8,9,10,11]),(13,[5,7,8,9,10,11]),(14,[5,7,8,9,10,11]),(15,[5,7,8,9,10,11,12]),(16,[5,7,8,9,10,11,12]),(17,[5,7,8,9,10,12]),(18,[5,7,8,9,10]),(19,[7,9]),(1000008,[7,9]),(1000011,[5,7,8,9,10,11])]),
 (13,.code Sw [.val] [] [(2,none),(3,none),(4,none)] [(0,[0]),(1,[0]),(2,[]),(3,[0]),(4,[0,5]),(5,[0,5,6,7]),(6,[5,6,7,8]),(7,[5,6,7,9,10,11]),(8,[5,6,7,9,10,11,12,13,14]),(9,[5,7,9,10,11,12,13,14,15]),(10,[5,7]),(11,[5,7,9,10,13,15]),(12,[5,7,9,10,15]),(13,[5,6,7,8,9]),(1000006,[2,3,4])]),
 (14,.code S7 [.io,.val] [0] [(4,none)] [(0,[0,1]),(1,[0,1]),(2,[0,1,5]),(3,[0,1,5]),(4,[0,1,5]),(5,[0,1,5]),(6,[0,1]),(1000002,[0,1])]),
 (15,.code Sk [.val,.val] [] [(4,none)] [(0,[0,1]),(1,[0,1]),(2,[0,1,5]),(3,[0,1,5]),(4,[0,1,5]),(5,[]),(6,[0,1,5]),(7,[1]),(1000002,[1,4])]),
 (29,.code Sj [.val,.val] [] [(4,none),(5,none)] [(0,[0,1]),(1,[0,1]),(2,[]),(3,[0,1]),(4,[0,1,6]),(5,[0,1,6]),(6,[0,1,6]),(7,[0]),(1000004,[0])]),
 (31,.code Td [.val] [] [(2,none)] [(0,[0]),(1,[0])]),
 (34,.sem [.val] (Ev)),
 (35,.code Sq [.val,.val] [] [(4,none)] [(0,[0,1]),(1,[0,1]),(2,[0,1,5]),(3,[0,1,5]),(4,[0,1,5]),(5,[0]),(1000002,[0])]),
 (36,.code S6 [.val] [] [(2,none)] [(0,[0]),(1,[0]),(2,[0,3]),(3,[0,3,4]),(4,[0,3,4]),(5,[0,3,4,5]),(6,[0,3,4,5]),(7,[0,3,4,5]),(8,[0,3,4]),(9,[0,3]),(10,[3]),(11,[3]),(1000003,[0,3])]),
 (37,.ext (CM NE)),
 (38,.code TM [.val] [] [(2,none)] [(0,[0]),(1,[0])]),
 (39,.code Sp [.val] [] [(2,none)] [(0,[0]),(1,[0]),(2,[]),(3,[0]),(4,[0,3]),(5,[0,3]),(6,[0,3]),(7,[3]),(1000004,[3])]),
 (55,.code TV [.val,.val,.val] [] [(6,none)] [(0,[0,1,2]),(1,[0,1,2])]),
 (57,.ext (CM D5))]
noncomputable def E : AX := ⟨fun t => Jr Ni t, GU Fq, ["internal/bytealg.MaxLen", "internal/strconv.uint64pow10"]⟩
noncomputable def EF (n:Nat):FD:=match GU Fq n with
 | some d=>d
 | none => .ext fun _=>none
noncomputable def Dj (n:Nat):List (Nat × List Nat):=match GU Fq n with
 | some d=>d.keep
 | none=>[]
theorem tysOk:Bw Tryd.prog E:=M3 (l:=Ni) (fun _=>rfl) (by kernel_rfl)
abbrev FT (f:Nat):Prop:=Dk Tryd.prog E f (EF f)
theorem PQ {f : Nat} {fn : Func} (c : Code) (hf : Tryd.prog.funcs[f]? = some fn) (hn : (fn.name == "runtime.NumGoroutine") = false := by kernel_rfl) (hb : fn.body = some c := by kernel_rfl) (h : Od E fn c (EF f).ms (EF f).os (EF f).rs = true := by kernel_rfl) (hd : EF f = .code c (EF f).ms (EF f).os (EF f).rs (EF f).keep := by kernel_rfl) : FT f := by unfold FT; rw [hd]; exact JE hf hn hb h
theorem T8:FT 4:=PQ c4 Tryd.func4
theorem TW:FT 11:=PQ Si Tryd.func11
theorem TR:FT 12:=PQ SS Tryd.func12
theorem Tb:FT 13:=PQ Sw Tryd.func13
theorem Te:FT 14:=PQ S7 Tryd.func14
theorem TX:FT 15:=PQ Sk Tryd.func15
theorem Tg:FT 29:=PQ Sj Tryd.func29
theorem TT:FT 31:=PQ Td Tryd.func31
theorem Tp:Dk Tryd.prog E 34 (.sem [.val] (Ev)):=DN.linesOk
theorem TN:FT 35:=PQ Sq Tryd.func35
theorem Tj:FT 36:=PQ S6 Tryd.func36
theorem Tc:Dk Tryd.prog E 37 (.ext (CM NE)):=DS.ok37 (.head _)
theorem TZ:FT 38:=PQ TM Tryd.func38
theorem TQ:FT 39:=PQ Sp Tryd.func39
theorem Ts:FT 55:=PQ TV Tryd.func55
theorem Tr:Dk Tryd.prog E 57 (.ext (CM D5)):=DS.ok57 (.tail _ (.head _))
theorem OC:ID Tryd.prog E Fq:=.cons T8 (.cons TW (.cons TR (.cons Tb (.cons Te (.cons TX (.cons Tg (.cons TT (.cons Tp (.cons TN (.cons Tj (.cons Tc (.cons TZ (.cons TQ (.cons Ts (.cons Tr (.nil))))))))))))))))
theorem fnOk:∀ f fd,E.fn f=some fd→Dk Tryd.prog E f fd:=NF (l:=Fq) (fun _=>rfl) OC
abbrev OY {V X:Type} (no:Nat) (P:List Am) (S:Ds V) (A:DC X) (F:Nat→V→Option X):Prop:=∀ n v x,F n v=some x→AM E n no (Cr P (S.pk v))=some (A.enc x)
theorem O2 {V X:Type} {no:Nat} {P:List Am} {S:Ds V} {A:DC X} {F:Nat→V→Option X} (c:Code) (O:Nat→FV) (bs:List Code:=[]) (ha:∀ n,K6 (O n) E (AM E n) n (Dj no) bs:=by intro _;exact .nil) (hf:E.fn no=some (.code c (EF no).ms (EF no).os (EF no).rs (Dj no)):=by kernel_rfl) (hO:∀ n,(O n).CfOk (AM E n):=by intro n;exact HS _ _ n) (hb:BA c=bs:=by kernel_rfl) (h0:∀ v,F 0 v=none:=by intro _;rfl) (hs:∀ n v,F (n+1) v=TG E (O n) no (Cr P (S.pk v)) A.dec:=by intro _ _;kernel_rfl):OY no P S A F:=Of O hf hO (fun n=>I5 hb (ha n)) h0 hs
abbrev Po (no:Nat) (c:Code) (i n:Nat) (O:FV):Prop:=Fu O E (AM E n) n (Dj no) (.loop (BQ c i))
theorem Qw {V X:Type} {no i:Nat} {c:Code} {O:Nat→FV} (P:AS) (S:Ds V) (A:K0 X) (L:Nat→Nat→V→Option X) (bs:List Code:=[]) (ha:∀ n,K6 (O n) E (AM E n) n (Dj no) bs:=by intro _;exact .nil) (hO:∀ n,(O n).CfOk (AM E n):=by intro n;exact HS _ _ n) (hb:BA (BQ c i)=bs:=by kernel_rfl) (h0:∀ n v,L n 0 v=none:=by intro _ _;rfl)
  (hs:∀ n m v,L n (m+1) v=Dg E (O n) (Dj no) (BQ c i) (PS P (S.pk v)) (fun ex σ'=>match ex with
    | .normal=>bd (Kf P (Go.Desk.settle (A4 (Dj no) (BC (BQ c i))) σ')) fun ls=>bd (S.up ls) (L n m)
    | .exit id=>A.dec (.exit id) (Go.Desk.settle (A4 (Dj no) (Hw (BQ c i))) σ')
    | .ret=>A.dec .ret (Go.Desk.settle (A4 (Dj no) (Hw (BQ c i))) σ')):=by intro _ _ _;kernel_rfl)
  (hW:∀ n (β:Type) (σ:AS) (k:Ex→AS→Option β),(O n).lp (Re (BQ c i)) σ k=bd (Kf P σ) fun ls=>bd (S.up ls) fun v=>bd (L n n v) fun x=>A.out x k:=by intro _ _ _ _;kernel_rfl):∀ n,Po no c i n (O n):=fun n=>Ou P S A (L n) (hO n) (I5 hb (ha n)) (h0 n) (hs n) (hW n)
end Go.Proofs.YtokonabdnlckdaaDoor.D
end
noncomputable section
namespace Go.Proofs.YtokonabdnlckdaaDoor.D
open Go Go.Desk
abbrev TB:=Nat × List T × Nat × List T × Int × Int × Int × Int
abbrev T2:=Nat × List T × Nat × List T × Int × Int × Int
abbrev T1:=Nat × List T × Int × Int × List UInt8
abbrev Tw:=Nat × List T × Nat × List T × Int
abbrev Tx:=Nat × List T × Nat × List T
abbrev SI:=Nat × List T × Int × Bool
abbrev T0:=Int × Nat × List T × Int
abbrev Tf:=Nat × List T × Int × Int
abbrev TE:Go.Desk.V:=⟨false,[.sl .own [.leaf]],[.lst 0 []]⟩
abbrev T5:Go.Desk.V:=⟨false,[.sl .shr [.leaf]],[.lst 0 []]⟩
abbrev Ri:Go.Desk.V:=⟨false,[.leaf],[.int .i64 0]⟩
abbrev SY:Go.Desk.V:=⟨false,[.leaf],[.bool false]⟩
abbrev TH:Go.Desk.V:=⟨false,[.leaf],[.str []]⟩
abbrev Pz:Am:=⟨.val,Ri⟩
abbrev Sx:Am:=⟨.val,TH⟩
abbrev TP:Am:=⟨.val,T5⟩
abbrev Pp:AA:=.val false [.sl .own [.leaf]] [.lst 0 []] [] 0
abbrev TU:AA:=.val false [.sl .shr [.leaf]] [.lst 0 []] [] 0
abbrev Bx:AA:=.val false [.leaf] [.int .i64 0] [] 0
abbrev QS:AA:=.val false [.leaf] [.str []] [] 0
set_option linter.unusedVariables false
noncomputable def x34.w:D1 E:=Fb.w 34 (by kernel_rfl)
noncomputable def x57.w:D1 E:=FB.w 57 (by kernel_rfl)
noncomputable def x37.w:D1 E:=ME.w 37 (by kernel_rfl)
noncomputable def f12.l1 (n:Nat):Nat→Nat→List T→Nat→List T→Int→Int→Int→Int→Option (TB)
 | 0,_,_,_,_,_,_,_,_=>none
 | m+1,n1,l2,n3,l4,i5,i6,i7,i8 =>
   gd (decide ((0≤i7)∧(i7<(n1:Int)))) (
   gd (Ey [.str] l2 (Int.toNat i7)) (
   br (decide (i8<(((List.length (L4 l2 (Int.toNat i7))):Nat):Int))) (
    gd (decide ((0≤i7)∧(i7<(n1:Int)))) (
    gd (Ey [.str] l2 (Int.toNat i7)) (
    gd (decide ((0≤i8)∧(i8<(((List.length (L4 l2 (Int.toNat i7))):Nat):Int)))) (
    br ((EI (L4 l2 (Int.toNat i7)) (Int.toNat i8)) != (32:Int)) (
     f12.l1 n m n1 l2 n3 l4 i5 i6 i7 (IntKind.i64.wrap (i8+(1:Int)))) (
     some (n1,l2,n3,l4,i5,i6,i7,i8)))))) (
    some (n1,l2,n3,l4,i5,i6,i7,i8))))
noncomputable def f35.l0 (n:Nat):Nat→Int→List UInt8→Int→Option (Int)
 | 0,_,_,_=>none
 | m+1,i1,s2,i3 =>
   br (decide (i3<(((List.length s2):Nat):Int))) (
    gd (decide ((0≤i3)∧(i3<(((List.length s2):Nat):Int)))) (
    let i4:=(Int.tmod (IntKind.i64.wrap ((IntKind.i64.wrap ((IntKind.i64.wrap ((577:Int) * i1))+(IntKind.i64.wrap (EI s2 (Int.toNat i3)))))+(21:Int))) (65003:Int))
    f35.l0 n m i4 s2 (IntKind.i64.wrap (i3+(1:Int))))) (
    some i1)
noncomputable def f35:Nat→Int→List UInt8→Option (Int)
 | 0,_,_=>none
 | n+1,i1,s2 =>
   bd (f35.l0 n n i1 s2 (0:Int)) fun r3 =>
   let i4:=r3
   some i4
noncomputable def LV:Ds (Int × List UInt8) where
 pk:=fun (a0,a1)=>[.int a0,.str a1]
 up:=fun ls=>match ls with
  | [.int a0,.str a1]=>some (a0,a1)
  | _=>none
noncomputable def Gz:Ds (Int) where
 pk:=fun v=>[.int v]
 up:=fun ls=>match ls with
  | [.int a0]=>some a0
  | _=>none
noncomputable def Lm:Ds (Int × List UInt8 × Int) where
 pk:=fun (a0,a1,a2)=>[.int a0,.str a1,.int a2]
 up:=fun ls=>match ls with
  | [.int a0,.str a1,.int a2]=>some (a0,a1,a2)
  | _=>none
noncomputable def f35.l0.P:AS:=⟨[(0,Bx),(1,QS),(5,Bx)],0⟩
noncomputable def f35.l0.A:K0 (Int):=.one (.exit 0) ⟨[(0,Bx)],0⟩ Gz
noncomputable def f35.l0.F (n m:Nat) (v:Int × List UInt8 × Int):=f35.l0 n m v.1 v.2.1 v.2.2
noncomputable def f35.l0.W (n:Nat):Nl:=.of 32 f35.l0.P Lm f35.l0.A (f35.l0.F n n)
noncomputable def f35.P:List Am:=[Pz,Sx]
noncomputable def f35.A:DC (Int):=.one ⟨[Ri],[none,none]⟩ Gz
noncomputable def f35.F (n:Nat) (v:Int × List UInt8):=f35 n v.1 v.2
noncomputable def f35.O (n:Nat):FV:=DK (E:=E) [] [f35.l0.W n] n
theorem f35.l0.ok:∀ n,Po 35 Sq 0 n (f35.O n):=Qw f35.l0.P Lm f35.l0.A f35.l0.F
theorem f35.ok:OY 35 f35.P LV f35.A f35.F:=O2 Sq f35.O [BQ Sq 0] (fun n=>(.cons (f35.l0.ok n) .nil))
noncomputable def f35.w:D1 E:=FW 35 f35.P LV f35.A f35.F f35.ok
noncomputable def f36.l0 (n:Nat):Nat→Int→Nat→List T→Int→Option (Int × Nat × List T)
 | 0,_,_,_,_=>none
 | m+1,i1,n2,l3,i4 =>
   br ((n2:Int)==(0:Int)) (
    let i5:=(Int.tmod i4 (10:Int))
    br (decide (i5<(0:Int))) (
     let i6:=(IntKind.i64.wrap ((0:Int) - i5))
     gd (Nat.ble (1+n2) 2147483648) (
     let n7:=(1+n2)
     let l8:=((Aj (reps 1 [(T.int .u8 (0:Int))]) 0 [(T.int .u8 (IntKind.u8.wrap (IntKind.i64.wrap ((48:Int)+i6))))])++l3)
     f36.l0 n m i1 n7 l8 (IntKind.i64.wrap (Int.tdiv i4 (10:Int))))) (
     gd (Nat.ble (1+n2) 2147483648) (
     let n9:=(1+n2)
     let l10:=((Aj (reps 1 [(T.int .u8 (0:Int))]) 0 [(T.int .u8 (IntKind.u8.wrap (IntKind.i64.wrap ((48:Int)+i5))))])++l3)
     f36.l0 n m i1 n9 l10 (IntKind.i64.wrap (Int.tdiv i4 (10:Int)))))) (
    br (i4 != (0:Int)) (
     let i11:=(Int.tmod i4 (10:Int))
     br (decide (i11<(0:Int))) (
      let i12:=(IntKind.i64.wrap ((0:Int) - i11))
      gd (Nat.ble (1+n2) 2147483648) (
      let n13:=(1+n2)
      let l14:=((Aj (reps 1 [(T.int .u8 (0:Int))]) 0 [(T.int .u8 (IntKind.u8.wrap (IntKind.i64.wrap ((48:Int)+i12))))])++l3)
      f36.l0 n m i1 n13 l14 (IntKind.i64.wrap (Int.tdiv i4 (10:Int))))) (
      gd (Nat.ble (1+n2) 2147483648) (
      let n15:=(1+n2)
      let l16:=((Aj (reps 1 [(T.int .u8 (0:Int))]) 0 [(T.int .u8 (IntKind.u8.wrap (IntKind.i64.wrap ((48:Int)+i11))))])++l3)
      f36.l0 n m i1 n15 l16 (IntKind.i64.wrap (Int.tdiv i4 (10:Int)))))) (
     some (i1,n2,l3)))
noncomputable def f36:Nat→Int→Option (List UInt8)
 | 0,_=>none
 | n+1,i1 =>
   bd (f36.l0 n n i1 0 (reps 0 [(T.int .u8 (0:Int))]) i1) fun r2 =>
   let i3:=r2.1
   let n4:=r2.2.1
   let l5:=r2.2.2
   br (decide (i3<(0:Int))) (
    gd (Nat.ble (1+n4) 2147483648) (
    let n6:=(1+n4)
    let l7:=((Aj (reps 1 [(T.int .u8 (0:Int))]) 0 [(T.int .u8 (45:Int))])++l5)
    bd ((Cb l7)) fun y8 =>
    some y8)) (
    bd ((Cb l5)) fun y9 =>
    some y9)
noncomputable def Kj:Ds (List UInt8) where
 pk:=fun v=>[.str v]
 up:=fun ls=>match ls with
  | [.str a0]=>some a0
  | _=>none
noncomputable def Qk:Ds (T0) where
 pk:=fun (a0,a1,a2,a3)=>[.int a0,.lst a1 a2,.int a3]
 up:=fun ls=>match ls with
  | [.int a0,.lst a1 a2,.int a3]=>some (a0,a1,a2,a3)
  | _=>none
noncomputable def Rl:Ds (Int × Nat × List T) where
 pk:=fun (a0,a1,a2)=>[.int a0,.lst a1 a2]
 up:=fun ls=>match ls with
  | [.int a0,.lst a1 a2]=>some (a0,a1,a2)
  | _=>none
noncomputable def f36.l0.P:AS:=⟨[(0,Bx),(3,Pp),(4,Bx)],0⟩
noncomputable def f36.l0.A:K0 (Int × Nat × List T):=.one (.exit 0) ⟨[(0,Bx),(3,Pp)],0⟩ Rl
noncomputable def f36.l0.F (n m:Nat) (v:T0):=let (a,b,c,d):=v;f36.l0 n m a b c d
noncomputable def f36.l0.W (n:Nat):Nl:=.of 48 f36.l0.P Qk f36.l0.A (f36.l0.F n n)
noncomputable def f36.P:List Am:=[Pz]
noncomputable def f36.A:DC (List UInt8):=.one ⟨[TH],[none]⟩ Kj
noncomputable def f36.F (n:Nat) (v:Int):=f36 n v
noncomputable def f36.O (n:Nat):FV:=DK (E:=E) [] [f36.l0.W n] n
theorem f36.l0.ok:∀ n,Po 36 S6 0 n (f36.O n):=Qw f36.l0.P Qk f36.l0.A f36.l0.F
theorem f36.ok:OY 36 f36.P Gz f36.A f36.F:=O2 S6 f36.O [BQ S6 0] (fun n=>(.cons (f36.l0.ok n) .nil))
noncomputable def f36.w:D1 E:=FW 36 f36.P Gz f36.A f36.F f36.ok
noncomputable def f12.l0 (n:Nat):Nat→Nat→List T→Nat→List T→Int→Int→Int→Option (Nat × List T × Int)
 | 0,_,_,_,_,_,_,_=>none
 | m+1,n1,l2,n3,l4,i5,i6,i7 =>
   br (decide (i7<(n1:Int))) (
    bd (f12.l1 n n n1 l2 n3 l4 i5 i6 i7 (0:Int)) fun r8 =>
    let n9:=r8.1
    let l10:=r8.2.1
    let n11:=r8.2.2.1
    let l12:=r8.2.2.2.1
    let i13:=r8.2.2.2.2.1
    let i14:=r8.2.2.2.2.2.1
    let i15:=r8.2.2.2.2.2.2.1
    let i16:=r8.2.2.2.2.2.2.2
    gd (decide ((0≤i15)∧(i15<(n9:Int)))) (
    gd (Ey [.str] l10 (Int.toNat i15)) (
    br (i16==(((List.length (L4 l10 (Int.toNat i15))):Nat):Int)) (
     some (n11,l12,i14)) (
     gd (decide ((0≤i15)∧(i15<(n9:Int)))) (
     gd (Ey [.str] l10 (Int.toNat i15)) (
     gd (decide (((0:Int)≤(IntKind.i64.wrap (i16+(1:Int))))∧(((IntKind.i64.wrap (i16+(1:Int)))≤(((List.length (L4 l10 (Int.toNat i15))):Nat):Int))∧((((List.length (L4 l10 (Int.toNat i15))):Nat):Int)≤(((List.length (L4 l10 (Int.toNat i15))):Nat):Int))))) (
     let s17:List UInt8:=(List.take ((List.length (L4 l10 (Int.toNat i15))) - (Int.toNat (IntKind.i64.wrap (i16+(1:Int))))) (List.drop (Int.toNat (IntKind.i64.wrap (i16+(1:Int)))) (L4 l10 (Int.toNat i15))))
     bd (f35 n i13 s17) fun r18 =>
     let i19:=r18
     gd (decide ((0≤i15)∧(i15<(n9:Int)))) (
     gd (Ey [.str] l10 (Int.toNat i15)) (
     gd (decide ((0≤(0:Int))∧((0≤i16)∧(i16≤(((List.length (L4 l10 (Int.toNat i15))):Nat):Int))))) (
     bd (f36 n i19) fun r20 =>
     let s21:List UInt8:=r20
     br (!((List.take ((Int.toNat i16) - 0) (List.drop 0 (L4 l10 (Int.toNat i15))))==s21)) (
      some (n11,l12,i14)) (
      gd (Nat.ble (n11+1) 2147483648) (
      let n22:=(n11+1)
      let l23:=(l12++(Aj (reps 1 [(T.str [])]) 0 [(T.str s17)]))
      gd (decide ((0≤i15)∧(i15<(n9:Int)))) (
      gd (Ey [.str] l10 (Int.toNat i15)) (
      let i24:=(IntKind.i64.wrap (i14+(IntKind.i64.wrap ((((List.length (L4 l10 (Int.toNat i15))):Nat):Int)+(1:Int)))))
      f12.l0 n m n9 l10 n22 l23 i19 i24 (IntKind.i64.wrap (i15+(1:Int))))))))))))))))) (
    some (n3,l4,i6))
noncomputable def f12:Nat→List UInt8→Option (SI)
 | 0,_=>none
 | n+1,s1 =>
   br (decide ((((List.length s1):Nat):Int)>(8000:Int))) (
    some (0,[],(0:Int),false)) (
    bd (Fb n s1) fun r2 =>
    let n3:=r2.1
    let l4:=r2.2.1
    let s5:List UInt8:=r2.2.2
    bd (f12.l0 n n n3 l4 0 (reps 0 [(T.str [])]) (0:Int) (0:Int) (0:Int)) fun r6 =>
    let n7:=r6.1
    let l8:=r6.2.1
    let i9:=r6.2.2
    some (n7,l8,i9,true))
noncomputable def OM:Ds (SI) where
 pk:=fun (a0,a1,a2,a3)=>[.lst a0 a1,.int a2,.bool a3]
 up:=fun ls=>match ls with
  | [.lst a0 a1,.int a2,.bool a3]=>some (a0,a1,a2,a3)
  | _=>none
noncomputable def IJ:Ds (TB) where
 pk:=fun (a0,a1,a2,a3,a4,a5,a6,a7)=>[.lst a0 a1,.lst a2 a3,.int a4,.int a5,.int a6,.int a7]
 up:=fun ls=>match ls with
  | [.lst a0 a1,.lst a2 a3,.int a4,.int a5,.int a6,.int a7]=>some (a0,a1,a2,a3,a4,a5,a6,a7)
  | _=>none
noncomputable def M6:Ds (T2) where
 pk:=fun (a0,a1,a2,a3,a4,a5,a6)=>[.lst a0 a1,.lst a2 a3,.int a4,.int a5,.int a6]
 up:=fun ls=>match ls with
  | [.lst a0 a1,.lst a2 a3,.int a4,.int a5,.int a6]=>some (a0,a1,a2,a3,a4,a5,a6)
  | _=>none
noncomputable def LZ:Ds (Nat × List T × Int) where
 pk:=fun (a0,a1,a2)=>[.lst a0 a1,.int a2]
 up:=fun ls=>match ls with
  | [.lst a0 a1,.int a2]=>some (a0,a1,a2)
  | _=>none
noncomputable def f12.l1.P:AS:=⟨[(5,Pp),(7,Pp),(8,Bx),(9,Bx),(10,Bx),(11,Bx)],0⟩
noncomputable def f12.l1.A:K0 (TB):=.one (.exit 2) ⟨[(5,Pp),(7,Pp),(8,Bx),(9,Bx),(10,Bx),(11,Bx)],0⟩ IJ
noncomputable def f12.l1.F (n m:Nat) (v:TB):=let (a,b,c,d,e,f,g,h):=v;f12.l1 n m a b c d e f g h
noncomputable def f12.l1.W (n:Nat):Nl:=.of 176 f12.l1.P IJ f12.l1.A (f12.l1.F n n)
noncomputable def f12.l0.P:AS:=⟨[(5,Pp),(7,Pp),(8,Bx),(9,Bx),(10,Bx)],0⟩
noncomputable def f12.l0.A:K0 (Nat × List T × Int):=.one (.exit 0) ⟨[(7,Pp),(9,Bx)],0⟩ LZ
noncomputable def f12.l0.F (n m:Nat) (v:T2):=let (a,b,c,d,e,f,g):=v;f12.l0 n m a b c d e f g
noncomputable def f12.l0.W (n:Nat):Nl:=.of 128 f12.l0.P M6 f12.l0.A (f12.l0.F n n)
noncomputable def f12.P:List Am:=[Sx]
noncomputable def f12.A:DC (SI):=.one ⟨[TE,Ri,SY],[none]⟩ OM
noncomputable def f12.F (n:Nat) (v:List UInt8):=f12 n v
noncomputable def f12.O (n:Nat):FV:=DK (E:=E) [x34.w,f35.w,f36.w] [f12.l1.W n,f12.l0.W n] n
theorem f12.l1.ok:∀ n,Po 12 SS 1 n (f12.O n):=Qw f12.l1.P IJ f12.l1.A f12.l1.F
theorem f12.l0.ok:∀ n,Po 12 SS 0 n (f12.O n):=Qw f12.l0.P M6 f12.l0.A f12.l0.F [BQ SS 1] (fun n=>(.cons (f12.l1.ok n) .nil))
theorem f12.ok:OY 12 f12.P Kj f12.A f12.F:=O2 SS f12.O [BQ SS 0] (fun n=>(.cons (f12.l0.ok n) .nil))
noncomputable def f12.w:D1 E:=FW 12 f12.P Kj f12.A f12.F f12.ok
noncomputable def f55:Nat→Int→Int→Int→Option (Bool)
 | 0,_,_,_=>none
 | n+1,i1,i2,i3 =>
   br (decide (i2≤i1)) (
    some (decide (i1≤i3))) (
    some false)
noncomputable def Px:Ds (Int × Int × Int) where
 pk:=fun (a0,a1,a2)=>[.int a0,.int a1,.int a2]
 up:=fun ls=>match ls with
  | [.int a0,.int a1,.int a2]=>some (a0,a1,a2)
  | _=>none
noncomputable def RP:Ds (Bool) where
 pk:=fun v=>[.bool v]
 up:=fun ls=>match ls with
  | [.bool a0]=>some a0
  | _=>none
noncomputable def f55.P:List Am:=[Pz,Pz,Pz]
noncomputable def f55.A:DC (Bool):=.one ⟨[SY],[none,none,none]⟩ RP
noncomputable def f55.F (n:Nat) (v:Int × Int × Int):=f55 n v.1 v.2.1 v.2.2
noncomputable def f55.O (n:Nat):FV:=DK (E:=E) [] [] n
theorem f55.ok:OY 55 f55.P Px f55.A f55.F:=O2 TV f55.O
noncomputable def f55.w:D1 E:=FW 55 f55.P Px f55.A f55.F f55.ok
noncomputable def f29.l0 (n:Nat):Nat→Int→List UInt8→Int→Option (Int)
 | 0,_,_,_=>none
 | m+1,i1,s2,i3 =>
   br (decide (i3<(((List.length s2):Nat):Int))) (
    gd (decide ((0≤i3)∧(i3<(((List.length s2):Nat):Int)))) (
    let i4:=(Int.tmod (IntKind.i64.wrap ((IntKind.i64.wrap ((IntKind.i64.wrap ((577:Int) * i1))+(IntKind.i64.wrap (EI s2 (Int.toNat i3)))))+(21:Int))) (65003:Int))
    f29.l0 n m i4 s2 (IntKind.i64.wrap (i3+(1:Int))))) (
    some i1)
noncomputable def f29:Nat→Int→List UInt8→Option (Int × Bool)
 | 0,_,_=>none
 | n+1,i1,s2 =>
   bd (f55 n i1 (0:Int) (65002:Int)) fun r3 =>
   let b4:=r3
   br (!b4) (
    some ((0:Int),false)) (
    bd (f29.l0 n n i1 s2 (0:Int)) fun r5 =>
    let i6:=r5
    some (i6,true))
noncomputable def Sh:Ds (Int × Bool) where
 pk:=fun (a0,a1)=>[.int a0,.bool a1]
 up:=fun ls=>match ls with
  | [.int a0,.bool a1]=>some (a0,a1)
  | _=>none
noncomputable def f29.l0.P:AS:=⟨[(0,Bx),(1,QS),(6,Bx)],0⟩
noncomputable def f29.l0.A:K0 (Int):=.one (.exit 0) ⟨[(0,Bx)],0⟩ Gz
noncomputable def f29.l0.F (n m:Nat) (v:Int × List UInt8 × Int):=f29.l0 n m v.1 v.2.1 v.2.2
noncomputable def f29.l0.W (n:Nat):Nl:=.of 64 f29.l0.P Lm f29.l0.A (f29.l0.F n n)
noncomputable def f29.P:List Am:=[Pz,Sx]
noncomputable def f29.A:DC (Int × Bool):=.one ⟨[Ri,SY],[none,none]⟩ Sh
noncomputable def f29.F (n:Nat) (v:Int × List UInt8):=f29 n v.1 v.2
noncomputable def f29.O (n:Nat):FV:=DK (E:=E) [f55.w] [f29.l0.W n] n
theorem f29.l0.ok:∀ n,Po 29 Sj 0 n (f29.O n):=Qw f29.l0.P Lm f29.l0.A f29.l0.F
theorem f29.ok:OY 29 f29.P LV f29.A f29.F:=O2 Sj f29.O [BQ Sj 0] (fun n=>(.cons (f29.l0.ok n) .nil))
noncomputable def f29.w:D1 E:=FW 29 f29.P LV f29.A f29.F f29.ok
noncomputable def f31:Nat→Int→Option (List UInt8)
 | 0,_=>none
 | n+1,i1 =>
   bd (FB n i1 (10:Int)) fun r2 =>
   let s3:List UInt8:=r2
   some s3
noncomputable def f31.P:List Am:=[Pz]
noncomputable def f31.A:DC (List UInt8):=.one ⟨[TH],[none]⟩ Kj
noncomputable def f31.F (n:Nat) (v:Int):=f31 n v
noncomputable def f31.O (n:Nat):FV:=DK (E:=E) [x57.w] [] n
theorem f31.ok:OY 31 f31.P Gz f31.A f31.F:=O2 Td f31.O
noncomputable def f31.w:D1 E:=FW 31 f31.P Gz f31.A f31.F f31.ok
noncomputable def f38:Nat→Int→Option (Int)
 | 0,_=>none
 | n+1,i1 =>
   some i1
noncomputable def f38.P:List Am:=[Pz]
noncomputable def f38.A:DC (Int):=.one ⟨[Ri],[none]⟩ Gz
noncomputable def f38.F (n:Nat) (v:Int):=f38 n v
noncomputable def f38.O (n:Nat):FV:=DK (E:=E) [] [] n
theorem f38.ok:OY 38 f38.P Gz f38.A f38.F:=O2 TM f38.O
noncomputable def f38.w:D1 E:=FW 38 f38.P Gz f38.A f38.F f38.ok
noncomputable def f13.l0 (n:Nat):Nat→Nat→List T→Int→Int→List UInt8→Option (SI)
 | 0,_,_,_,_,_=>none
 | m+1,n1,l2,i3,i4,s5 =>
   bd (ME n s5 [(10:UInt8)]) fun r6 =>
   let s7:List UInt8:=r6.1
   let s8:List UInt8:=r6.2.1
   let b9:=r6.2.2
   bd (ME n s7 [(32:UInt8)]) fun r10 =>
   let s11:List UInt8:=r10.1
   let s12:List UInt8:=r10.2.1
   let b13:=r10.2.2
   bd (f29 n i3 s12) fun r14 =>
   let i15:=r14.1
   br (!b9) (
    some (n1,l2,i4,true)) (
    br (!b13) (
     some (n1,l2,i4,true)) (
     bd (f31 n i15) fun r17 =>
     let s18:List UInt8:=r17
     br (!(s11==s18)) (
      some (n1,l2,i4,true)) (
      gd (Nat.ble (n1+1) 2147483648) (
      let n19:=(n1+1)
      let l20:=(l2++(Aj (reps 1 [(T.str [])]) 0 [(T.str s12)]))
      bd (f38 n (((List.length s7):Nat):Int)) fun r21 =>
      let i22:=r21
      f13.l0 n m n19 l20 i15 (IntKind.i64.wrap (i4+(IntKind.i64.wrap (i22+(1:Int))))) s8))))
noncomputable def f13:Nat→List UInt8→Option (SI)
 | 0,_=>none
 | n+1,s1 =>
   br (decide ((((List.length s1):Nat):Int)>(8000:Int))) (
    some (0,[],(0:Int),false)) (
    bd (f13.l0 n n 0 [] (0:Int) (0:Int) s1) fun r2 =>
    let n3:=r2.1
    let l4:=r2.2.1
    let i5:=r2.2.2.1
    let b6:=r2.2.2.2
    some (n3,l4,i5,b6))
noncomputable def Oi:Ds (T1) where
 pk:=fun (a0,a1,a2,a3,a4)=>[.lst a0 a1,.int a2,.int a3,.str a4]
 up:=fun ls=>match ls with
  | [.lst a0 a1,.int a2,.int a3,.str a4]=>some (a0,a1,a2,a3,a4)
  | _=>none
noncomputable def f13.l0.P:AS:=⟨[(5,Pp),(6,Bx),(7,Bx),(8,QS)],0⟩
noncomputable def f13.l0.A:K0 (SI):=.one .ret ⟨[(2,Pp),(3,Bx),(4,.val false [.leaf] [.bool false] [] 0)],0⟩ OM
noncomputable def f13.l0.F (n m:Nat) (v:T1):=let (a,b,c,d,e):=v;f13.l0 n m a b c d e
noncomputable def f13.l0.W (n:Nat):Nl:=.of 96 f13.l0.P Oi f13.l0.A (f13.l0.F n n)
noncomputable def f13.P:List Am:=[Sx]
noncomputable def f13.A:DC (SI):=.one ⟨[TE,Ri,SY],[none]⟩ OM
noncomputable def f13.F (n:Nat) (v:List UInt8):=f13 n v
noncomputable def f13.O (n:Nat):FV:=DK (E:=E) [x37.w,f29.w,f31.w,f38.w] [f13.l0.W n] n
theorem f13.l0.ok:∀ n,Po 13 Sw 0 n (f13.O n):=Qw f13.l0.P Oi f13.l0.A f13.l0.F
theorem f13.ok:OY 13 f13.P Kj f13.A f13.F:=O2 Sw f13.O [BQ Sw 0] (fun n=>(.cons (f13.l0.ok n) .nil))
noncomputable def f13.w:D1 E:=FW 13 f13.P Kj f13.A f13.F f13.ok
noncomputable def f11.l0 (n:Nat):Nat→Nat→List T→Nat→List T→Int→Option ((Bool) ⊕ (Unit))
 | 0,_,_,_,_,_=>none
 | m+1,n1,l2,n3,l4,i5 =>
   br (decide (i5<(n1:Int))) (
    gd ((decide ((0≤i5)∧(i5<(n1:Int))))&&(Ey [.str] l2 (Int.toNat i5))) (
    gd ((decide ((0≤i5)∧(i5<(n3:Int))))&&(Ey [.str] l4 (Int.toNat i5))) (
    br (!((L4 l2 (Int.toNat i5))==(L4 l4 (Int.toNat i5)))) (
     some (Sum.inl false)) (
     f11.l0 n m n1 l2 n3 l4 (IntKind.i64.wrap (i5+(1:Int))))))) (
    some (Sum.inr ()))
noncomputable def f11:Nat→Nat→List T→Nat→List T→Option (Bool)
 | 0,_,_,_,_=>none
 | n+1,n1,l2,n3,l4 =>
   br ((n1:Int) != (n3:Int)) (
    some false) (
    bd (f11.l0 n n n1 l2 n3 l4 (0:Int)) fun r5 =>
    sm r5 (fun u6 =>
     let b7:=u6
     some b7) (fun u8 =>
     some true))
noncomputable def Rn:Ds (Tx) where
 pk:=fun (a0,a1,a2,a3)=>[.lst a0 a1,.lst a2 a3]
 up:=fun ls=>match ls with
  | [.lst a0 a1,.lst a2 a3]=>some (a0,a1,a2,a3)
  | _=>none
noncomputable def Qr:Ds (Tw) where
 pk:=fun (a0,a1,a2,a3,a4)=>[.lst a0 a1,.lst a2 a3,.int a4]
 up:=fun ls=>match ls with
  | [.lst a0 a1,.lst a2 a3,.int a4]=>some (a0,a1,a2,a3,a4)
  | _=>none
noncomputable def sg:Ds (Unit) where
 pk:=fun v=>[]
 up:=fun ls=>match ls with
  | []=>some ()
  | _=>none
noncomputable def f11.l0.P:AS:=⟨[(0,TU),(1,TU),(5,Bx)],0⟩
noncomputable def f11.l0.A:K0 ((Bool) ⊕ (Unit)):=.or (.one .ret ⟨[(4,.val false [.leaf] [.bool false] [] 0)],0⟩ RP) (.one (.exit 0) ⟨[(4,.dead)],0⟩ sg)
noncomputable def f11.l0.F (n m:Nat) (v:Tw):=let (a,b,c,d,e):=v;f11.l0 n m a b c d e
noncomputable def f11.l0.W (n:Nat):Nl:=.of 64 f11.l0.P Qr f11.l0.A (f11.l0.F n n)
noncomputable def f11.P:List Am:=[TP,TP]
noncomputable def f11.A:DC (Bool):=.one ⟨[SY],[none,none]⟩ RP
noncomputable def f11.F (n:Nat) (v:Tx):=let (a,b,c,d):=v;f11 n a b c d
noncomputable def f11.O (n:Nat):FV:=DK (E:=E) [] [f11.l0.W n] n
theorem f11.l0.ok:∀ n,Po 11 Si 0 n (f11.O n):=Qw f11.l0.P Qr f11.l0.A f11.l0.F
theorem f11.ok:OY 11 f11.P Rn f11.A f11.F:=O2 Si f11.O [BQ Si 0] (fun n=>(.cons (f11.l0.ok n) .nil))
noncomputable def f11.w:D1 E:=FW 11 f11.P Rn f11.A f11.F f11.ok
noncomputable def f39.l0 (n:Nat):Nat→Int→List UInt8→Option (List UInt8)
 | 0,_,_=>none
 | m+1,i1,s2 =>
   br (decide (i1>(0:Int))) (
    bd ((Cb (Aj (reps 1 [(T.int .u8 (0:Int))]) 0 [(T.int .u8 (IntKind.u8.wrap (IntKind.i64.wrap ((48:Int)+(Int.tmod i1 (10:Int))))))]))) fun y3 =>
    gd (decide (((List.length y3)+(List.length s2))≤4611686018427387904)) (
    let s4:List UInt8:=(y3++s2)
    f39.l0 n m (IntKind.i64.wrap (Int.tdiv i1 (10:Int))) s4)) (
    some s2)
noncomputable def f39:Nat→Int→Option (List UInt8)
 | 0,_=>none
 | n+1,i1 =>
   br (decide (i1≤(0:Int))) (
    some [(109:UInt8),(48:UInt8)]) (
    bd (f39.l0 n n i1 []) fun r2 =>
    let s3:List UInt8:=r2
    gd (decide ((1+(List.length s3))≤4611686018427387904)) (
    some ([(109:UInt8)]++s3)))
noncomputable def f39.l0.P:AS:=⟨[(0,Bx),(3,QS)],0⟩
noncomputable def f39.l0.A:K0 (List UInt8):=.one (.exit 0) ⟨[(3,QS)],0⟩ Kj
noncomputable def f39.l0.F (n m:Nat) (v:Int × List UInt8):=f39.l0 n m v.1 v.2
noncomputable def f39.l0.W (n:Nat):Nl:=.of 64 f39.l0.P LV f39.l0.A (f39.l0.F n n)
noncomputable def f39.P:List Am:=[Pz]
noncomputable def f39.A:DC (List UInt8):=.one ⟨[TH],[none]⟩ Kj
noncomputable def f39.F (n:Nat) (v:Int):=f39 n v
noncomputable def f39.O (n:Nat):FV:=DK (E:=E) [] [f39.l0.W n] n
theorem f39.l0.ok:∀ n,Po 39 Sp 0 n (f39.O n):=Qw f39.l0.P LV f39.l0.A f39.l0.F
theorem f39.ok:OY 39 f39.P Gz f39.A f39.F:=O2 Sp f39.O [BQ Sp 0] (fun n=>(.cons (f39.l0.ok n) .nil))
noncomputable def f39.w:D1 E:=FW 39 f39.P Gz f39.A f39.F f39.ok
noncomputable def f14.l0 (n:Nat):Nat→Nat→List T→Int→Int→Option (Nat × List T × Int)
 | 0,_,_,_,_=>none
 | m+1,n1,l2,i3,i4 =>
   br (decide (i4<(n1:Int))) (
    bd (f39 n i3) fun r5 =>
    let s6:List UInt8:=r5
    gd (decide ((0≤i4)∧(i4<(n1:Int)))) (
    gd (Nat.ble ((Int.toNat i4)+1) (List.length l2)) (
    let l7:=(Aj l2 (Int.toNat i4) [(T.str s6)])
    let i8:=(IntKind.i64.wrap (i3+(1:Int)))
    f14.l0 n m n1 l7 i8 (IntKind.i64.wrap (i4+(1:Int)))))) (
    some (n1,l2,i3))
noncomputable def f14:Nat→Nat→List T→Int→Option (Int × Nat × List T)
 | 0,_,_,_=>none
 | n+1,n1,l2,i3 =>
   bd (f14.l0 n n n1 l2 i3 (0:Int)) fun r4 =>
   let n5:=r4.1
   let l6:=r4.2.1
   let i7:=r4.2.2
   some (i7,n5,l6)
noncomputable def L3:Ds (Tf) where
 pk:=fun (a0,a1,a2,a3)=>[.lst a0 a1,.int a2,.int a3]
 up:=fun ls=>match ls with
  | [.lst a0 a1,.int a2,.int a3]=>some (a0,a1,a2,a3)
  | _=>none
noncomputable def f14.l0.P:AS:=⟨[(0,.val false [.sl .own [.leaf]] [.lst 0 []] [] 1),(1,Bx),(5,Bx)],0⟩
noncomputable def f14.l0.A:K0 (Nat × List T × Int):=.one (.exit 0) ⟨[(0,.val false [.sl .own [.leaf]] [.lst 0 []] [] 1),(1,Bx)],0⟩ LZ
noncomputable def f14.l0.F (n m:Nat) (v:Tf):=let (a,b,c,d):=v;f14.l0 n m a b c d
noncomputable def f14.l0.W (n:Nat):Nl:=.of 32 f14.l0.P L3 f14.l0.A (f14.l0.F n n)
noncomputable def f14.P:List Am:=[⟨.io,TE⟩,Pz]
noncomputable def f14.A:DC (Int × Nat × List T):=.one ⟨[Ri],[some TE,none]⟩ Rl
noncomputable def f14.F (n:Nat) (v:Nat × List T × Int):=f14 n v.1 v.2.1 v.2.2
noncomputable def f14.O (n:Nat):FV:=DK (E:=E) [f39.w] [f14.l0.W n] n
theorem f14.l0.ok:∀ n,Po 14 S7 0 n (f14.O n):=Qw f14.l0.P L3 f14.l0.A f14.l0.F
theorem f14.ok:OY 14 f14.P LZ f14.A f14.F:=O2 S7 f14.O [BQ S7 0] (fun n=>(.cons (f14.l0.ok n) .nil))
noncomputable def f14.w:D1 E:=FW 14 f14.P LZ f14.A f14.F f14.ok
noncomputable def f15.l0 (n:Nat):Nat→Nat→List T→Int→Int→Option ((Int) ⊕ (Int))
 | 0,_,_,_,_=>none
 | m+1,n1,l2,i3,i4 =>
   br (decide (i4<(n1:Int))) (
    gd ((decide ((0≤i4)∧(i4<(n1:Int))))&&(Ey [.str] l2 (Int.toNat i4))) (
    bd (f39 n i3) fun r5 =>
    let s6:List UInt8:=r5
    br (!((L4 l2 (Int.toNat i4))==s6)) (
     some (Sum.inl (-1:Int))) (
     let i7:=(IntKind.i64.wrap (i3+(1:Int)))
     f15.l0 n m n1 l2 i7 (IntKind.i64.wrap (i4+(1:Int)))))) (
    some (Sum.inr i3))
noncomputable def f15:Nat→Nat→List T→Int→Option (Int)
 | 0,_,_,_=>none
 | n+1,n1,l2,i3 =>
   bd (f15.l0 n n n1 l2 i3 (0:Int)) fun r4 =>
   sm r4 (fun u5 =>
    let i6:=u5
    some i6) (fun u7 =>
    let i8:=u7
    some i8)
noncomputable def f15.l0.P:AS:=⟨[(0,TU),(1,Bx),(5,Bx)],0⟩
noncomputable def f15.l0.A:K0 ((Int) ⊕ (Int)):=.or (.one .ret ⟨[(1,.dead),(4,Bx)],0⟩ Gz) (.one (.exit 0) ⟨[(1,Bx),(4,.dead)],0⟩ Gz)
noncomputable def f15.l0.F (n m:Nat) (v:Tf):=let (a,b,c,d):=v;f15.l0 n m a b c d
noncomputable def f15.l0.W (n:Nat):Nl:=.of 32 f15.l0.P L3 f15.l0.A (f15.l0.F n n)
noncomputable def f15.P:List Am:=[TP,Pz]
noncomputable def f15.A:DC (Int):=.one ⟨[Ri],[none,none]⟩ Gz
noncomputable def f15.F (n:Nat) (v:Nat × List T × Int):=f15 n v.1 v.2.1 v.2.2
noncomputable def f15.O (n:Nat):FV:=DK (E:=E) [f39.w] [f15.l0.W n] n
theorem f15.l0.ok:∀ n,Po 15 Sk 0 n (f15.O n):=Qw f15.l0.P L3 f15.l0.A f15.l0.F
theorem f15.ok:OY 15 f15.P LZ f15.A f15.F:=O2 Sk f15.O [BQ Sk 0] (fun n=>(.cons (f15.l0.ok n) .nil))
noncomputable def f15.w:D1 E:=FW 15 f15.P LZ f15.A f15.F f15.ok
noncomputable def f4:Nat→List UInt8→Option (Bool)
 | 0,_=>none
 | n+1,s1 =>
   br (decide ((((List.length s1):Nat):Int)>(1048576:Int))) (
    some true) (
    bd (f12 n s1) fun r2 =>
    let n3:=r2.1
    let l4:=r2.2.1
    let i5:=r2.2.2.1
    let b6:=r2.2.2.2
    bd (f13 n s1) fun r7 =>
    let n8:=r7.1
    let l9:=r7.2.1
    let i10:=r7.2.2.1
    let b11:=r7.2.2.2
    bd (f11 n n8 l9 n3 l4) fun r12 =>
    let b13:=r12
    br (!b13) (
     some false) (
     br (i10 != i5) (
      some false) (
      br (!(b11==b6)) (
       some false) (
       bd (f14 n n8 l9 (1:Int)) fun r14 =>
       let i15:=r14.1
       let n16:=r14.2.1
       let l17:=r14.2.2
       bd (f15 n n16 l17 (1:Int)) fun r18 =>
       let i19:=r18
       br (decide (i19<(0:Int))) (
        some false) (
        br (i19 != i15) (
         some false) (
         bd (f13 n s1) fun r20 =>
         let n21:=r20.1
         let l22:=r20.2.1
         let i23:=r20.2.2.1
         let b24:=r20.2.2.2
         bd (f11 n n21 l22 n3 l4) fun r25 =>
         let b26:=r25
         br (!b26) (
          some false) (
          br (i23 != i5) (
           some false) (
           br (!(b24==b6)) (
            some false) (
            bd (f15 n n16 l17 (1:Int)) fun r27 =>
            let i28:=r27
            br (decide (i28<(0:Int))) (
             some false) (
             br (i28 != i15) (
              some false) (
              some true)))))))))))
noncomputable def f4.P:List Am:=[Sx]
noncomputable def f4.A:DC (Bool):=.one ⟨[SY],[none]⟩ RP
noncomputable def f4.F (n:Nat) (v:List UInt8):=f4 n v
noncomputable def f4.O (n:Nat):FV:=DK (E:=E) [f12.w,f13.w,f11.w,f14.w,f15.w] [] n
theorem f4.ok:OY 4 f4.P Kj f4.A f4.F:=O2 c4 f4.O
noncomputable def f4.w:D1 E:=FW 4 f4.P Kj f4.A f4.F f4.ok
end Go.Proofs.YtokonabdnlckdaaDoor.D
end
section
namespace Go.Proofs.YtokonabdnlckdaaDoor.D
open Go Go.Desk
set_option linter.unusedVariables false
noncomputable def BR (l:List (List UInt8)):List T:=l.map T.str
theorem Oj {l:List (List UInt8)} {i:Nat} (h:i<l.length):Ey [CK.str] (BR l) i=true:=by
 simp[Ey,BR,h,Qn]
theorem JT {l:List (List UInt8)} {i:Nat}:L4 (BR l) i=l.getD i []:=by
 unfold L4 BR
 rw[List.getElem?_map]
 cases h:l[i]? <;>simp[List.getD,h]
theorem LH (l:List (List UInt8)) (s:List UInt8):BR l++Aj (reps 1 [T.str []]) 0 [T.str s]=BR (l++[s]):=by simp[BR,Aj,reps]
theorem Gp {s:List UInt8} {i:Nat} (h:i<s.length):EI s i=(s[i].toNat:Int):=by simp[EI,h]
noncomputable def Qu (c:Int) (b:UInt8):Int:=(577 * c+(b.toNat:Int)+21) % 65003
noncomputable def Cy (c:Int) (s:List UInt8):Int:=s.foldl Qu c
theorem Cp (c:Int) (b:UInt8):0≤Qu c b∧Qu c b≤65002:=by unfold Qu;omega
theorem G8:∀ (s:List UInt8) {c:Int},0≤c→c≤65002→0≤Cy c s∧Cy c s≤65002
 | [],c,h0,h1=>⟨h0,h1⟩
 | b::s,c,h0,h1=>G8 s (Cp c b).1 (Cp c b).2
theorem NL {c:Int} (h0:0≤c) (h1:c≤65002) (b:UInt8) :
  Int.tmod (IntKind.i64.wrap ((IntKind.i64.wrap ((IntKind.i64.wrap ((577:Int) * c))+(IntKind.i64.wrap ((b.toNat:Nat):Int))))+(21:Int))) (65003:Int)=Qu c b:=by
 have hb:b.toNat<256:=b.toNat_lt
 rw[DB (x:=577 * c) (by omega) (by omega),DB (x:=((b.toNat:Nat):Int)) (by omega) (by omega),DB (x:=577 * c+((b.toNat:Nat):Int)) (by omega) (by omega),DB (by omega) (by omega)]
 rw[Int.tmod_eq_emod_of_nonneg (by omega)]
 rfl
theorem Rf (n:Nat) (s:List UInt8) (hs:s.length<1000000):∀ (m i:Nat) (c:Int),s.length+1≤m+i→i≤s.length→0≤c→c≤65002→f35.l0 n m c s (i:Int)=some (Cy c (s.drop i))
 | 0,i,c,h1,h2,h3,h4=>by omega
 | m+1,i,c,h1,h2,h3,h4=>by
   rw[f35.l0]
   rcases Nat.lt_or_ge i s.length with h | h
   ·rw[Gu h,Fh h]
    simp only[br,gd,zT]
    rw[Gp h,NL h3 h4,Bb (by omega),Rf n s hs m (i+1) _ (by omega) (by omega) (Cp _ _).1 (Cp _ _).2,drop_eq_getElem_cons h]
    rfl
   ·rw[E9 h]
    simp only[br]
    rw[drop_eq_nil_of_le h]
    rfl
theorem Rb (n:Nat) (s:List UInt8) (hs:s.length<1000000) (hn:s.length<n) {c:Int} (h0:0≤c) (h1:c≤65002):f35 (n+1) c s=some (Cy c s):=by
 rw[f35]
 have:=Rf n s hs n 0 c (by omega) (by omega) h0 h1
 rw[show ((0:Nat):Int)=0 from rfl,drop_zero] at this
 rw[this]
 rfl
theorem Rk (n:Nat) (s:List UInt8) (hs:s.length<1000000):∀ (m i:Nat) (c:Int),s.length+1≤m+i→i≤s.length→0≤c→c≤65002→f29.l0 n m c s (i:Int)=some (Cy c (s.drop i))
 | 0,i,c,h1,h2,h3,h4=>by omega
 | m+1,i,c,h1,h2,h3,h4=>by
   rw[f29.l0]
   rcases Nat.lt_or_ge i s.length with h | h
   ·rw[Gu h,Fh h]
    simp only[br,gd,zT]
    rw[Gp h,NL h3 h4,Bb (by omega),Rk n s hs m (i+1) _ (by omega) (by omega) (Cp _ _).1 (Cp _ _).2,drop_eq_getElem_cons h]
    rfl
   ·rw[E9 h]
    simp only[br]
    rw[drop_eq_nil_of_le h]
    rfl
theorem Qx (n:Nat) (s:List UInt8) (hs:s.length<1000000) (hn:s.length+1<n) {c:Int} (h0:0≤c) (h1:c≤65002):f29 (n+1) c s=some (Cy c s,true):=by
 obtain ⟨n,rfl⟩:∃ k,n=k+1:=⟨n - 1,by omega⟩
 rw[f29]
 have hw:f55 (n+1) c 0 65002=some true:=by
  rw[f55]
  rw[decide_eq_true h0]
  simp only[br]
  rw[decide_eq_true h1]
 rw[hw]
 have:=Rk (n+1) s hs (n+1) 0 c (by omega) (by omega) h0 h1
 rw[show ((0:Nat):Int)=0 from rfl,drop_zero] at this
 simp only[bd,br,Bool.not_true,this]
theorem Sz (n:Nat) {c:Int} (h0 : -9223372036854775808≤c) (h1:c≤9223372036854775807):f31 (n+2) c=some (Lib.itoa c):=by
 rw[f31]
 simp only[FB]
 rw[if_pos ⟨trivial,h0,h1⟩]
 rfl
noncomputable def SG (l:List UInt8):List T:=l.map fun b=>T.int .u8 (b.toNat:Int)
theorem Gi:∀ l,Cb (SG l)=some l
 | []=>rfl
 | b::l=>by
   show Cb (T.int .u8 (b.toNat:Int)::SG l)=_
   rw[Cb,Gi l]
   simp
theorem Tv (u:Nat):IntKind.u8.wrap (IntKind.i64.wrap ((48:Int)+Int.tmod (u:Int) 10))=(((UInt8.ofNat (48+u % 10)).toNat:Nat):Int):=by
 have h:Int.tmod (u:Int) 10=((u % 10:Nat):Int):=by rw[Int.tmod_eq_emod_of_nonneg (by omega)];omega
 have hlt:u % 10<10:=Nat.mod_lt _ (by omega)
 rw[h,DB (by omega) (by omega)]
 generalize u % 10=d at hlt
 have hd:d=0∨d=1∨d=2∨d=3∨d=4∨d=5∨d=6∨d=7∨d=8∨d=9:=by omega
 rcases hd with rfl | rfl | rfl | rfl | rfl | rfl | rfl | rfl | rfl | rfl <;>rfl
noncomputable def Ns (u:Nat) (acc:List UInt8):List UInt8:=if u=0∧acc≠[] then acc else Lib.decDigits u++acc
theorem LG {u:Nat} {acc:List UInt8} (h:¬ (u=0∧acc≠[])):Ns (u / 10) (UInt8.ofNat (48+u % 10)::acc)=Ns u acc:=by
 unfold Ns
 rw[if_neg h]
 conv=>rhs;rw[Lib.decDigits]
 by_cases hu:u<10
 ·rw[if_pos ⟨by omega,by simp⟩,dif_pos hu,Nat.mod_eq_of_lt hu];rfl
 ·rw[if_neg (by simp;omega),dif_neg hu,append_assoc];rfl
theorem IX (n:Nat) (i1:Int):∀ (m k u:Nat) (acc:List UInt8),u<10 ^ k→(if acc=[] then 1 else 0)+k+1≤m→acc.length+k≤100→u<9223372036854775807 →
  f36.l0 n m i1 acc.length (SG acc) (u:Int)=some (i1,(Ns u acc).length,SG (Ns u acc))
 | 0,k,u,acc,h1,h2,h3,h4=>by split at h2 <;>omega
 | m+1,k,u,acc,h1,h2,h3,h4=>by
   have hk:u / 10<10 ^ (k - 1):=by
    cases k with
    | zero=>simp at h1;subst h1;simp
    | succ k =>
      rw[Nat.pow_succ] at h1
      simp only[Nat.add_sub_cancel]
      omega
   have hq:IntKind.i64.wrap (Int.tdiv (u:Int) 10)=((u / 10:Nat):Int):=by
    rw[Int.tdiv_eq_ediv_of_nonneg (by omega),DB (by omega) (by omega)];omega
   have hneg:decide (Int.tmod (u:Int) 10<0)=false:=by
    rw[Int.tmod_eq_emod_of_nonneg (by omega),decide_eq_false_iff_not];omega
   have hb:Nat.ble (1+acc.length) 2147483648=true:=by rw[Nat.ble_eq];omega
   have hpush:(Aj (reps 1 [(T.int IntKind.u8 (0:Int))]) 0 [(T.int IntKind.u8 (IntKind.u8.wrap (IntKind.i64.wrap ((48:Int)+Int.tmod (u:Int) 10))))])++SG acc=SG (UInt8.ofNat (48+u % 10)::acc):=by
    rw[Tv];rfl
   have hlen:1+acc.length=(UInt8.ofNat (48+u % 10)::acc).length:=by simp;omega
   rw[f36.l0]
   by_cases ha:acc=[]
   ·subst ha
    have:((([]:List UInt8).length:Nat):Int)==0:=by rfl
    rw[show (((([]:List UInt8).length:Nat):Int)==0)=true from rfl]
    simp only[br,gd,hneg,hb,hpush,hq]
    rw[hlen,IX n i1 m (k - 1) (u / 10) _ hk (by simp at h2 ⊢;omega) (by simp at h3 ⊢;omega) (by omega),LG (by simp)]
   ·have hz:(((acc.length:Nat):Int)==0)=false:=by
     rw[beq_eq_false_iff_ne]
     have:acc.length≠0:=fun e=>ha (length_eq_zero_iff.1 e)
     omega
    rw[hz]
    rw[if_neg ha] at h2
    by_cases hu:u=0
    ·subst hu
     rw[show (((0:Nat):Int) != 0)=false from rfl]
     simp only[br]
     unfold Ns
     rw[if_pos ⟨rfl,ha⟩]
    ·have hu':((u:Int) != 0)=true:=by rw[bne_iff_ne];omega
     have hk1:1≤k:=by
      cases k with
      | zero=>simp at h1;omega
      | succ k=>omega
     rw[hu']
     simp only[br,gd,hneg,hb,hpush,hq]
     rw[hlen,IX n i1 m (k - 1) (u / 10) _ hk (by simp;omega) (by simp;omega) (by omega),LG (by simp[hu])]
theorem S0 (n:Nat) (hn:30≤n) {c:Int} (h0:0≤c) (h1:c≤1000000000000000000):f36 (n+1) c=some (Lib.itoa c):=by
 obtain ⟨u,rfl⟩:=Int.eq_ofNat_of_zero_le h0
 rw[f36]
 have:=IX n (u:Int) n 19 u [] (Nat.lt_of_lt_of_le (show u<10000000000000000000 by omega) (by decide)) (by simp;omega) (by simp) (by omega)
 rw[show (reps 0 [(T.int IntKind.u8 (0:Int))])=SG [] from rfl]
 rw[length_nil] at this
 rw[this]
 simp only[bd]
 rw[show decide ((u:Int)<0)=false by rw[decide_eq_false_iff_not];omega]
 simp only[br]
 rw[Gi]
 simp only[Ns,Lib.itoa]
 rw[if_neg (by simp),if_neg (by omega),append_nil,zT]
noncomputable def tw (c:UInt8) (s:List UInt8):Nat:=(s.takeWhile (· != c)).length
theorem P5 (c:UInt8) (s:List UInt8):tw c s≤s.length:=(List.takeWhile_sublist _).length_le
theorem GK (c b:UInt8) (s:List UInt8):tw c (b::s)=if b=c then 0 else tw c s+1:=by
 unfold tw
 rw[List.takeWhile_cons]
 by_cases h:b=c
 ·subst h;simp
 ·have:(b != c)=true:=by simpa using h
  rw[this,if_neg h];rfl
theorem K4 (c:UInt8):∀ s:List UInt8,Lib.index s [c]=if tw c s<s.length then ((tw c s:Nat):Int) else -1
 | []=>rfl
 | b::s=>by
   rw[Lib.index,GK,length_cons]
   by_cases h:b=c
   ·subst h
    rw[if_pos (by simp),if_pos rfl,if_pos (by omega)];rfl
   ·have h':¬ ([c].isPrefixOf (b::s)=true):=by
     simp
     exact fun e=>h e.symm
    rw[if_neg h',if_neg h,K4 c s]
    by_cases h2:tw c s<s.length
    ·rw[if_pos h2,if_pos (show tw c s+1<s.length+1 by omega)]
     have:((((tw c s:Nat):Int)) == -1)=false:=by rw[beq_eq_false_iff_ne];omega
     simp[this]
    ·rw[if_neg h2,if_neg (show ¬ (tw c s+1<s.length+1) by omega)];rfl
theorem Lv (c:UInt8) (s:List UInt8):Lib.cut s [c]=if tw c s<s.length then (s.take (tw c s),s.drop (tw c s+1),true) else (s,[],false):=by
 unfold Lib.cut
 rw[K4]
 by_cases h:tw c s<s.length
 ·rw[if_pos h,if_pos h,if_pos (by omega)]
  simp
 ·rw[if_neg h,if_neg h,if_neg (by omega)]
theorem Fi (c:UInt8):∀ s:List UInt8,AZ c s=if tw c s<s.length then s.take (tw c s)::AZ c (s.drop (tw c s+1)) else [s]
 | []=>rfl
 | b::s=>by
   rw[GK,length_cons]
   conv=>lhs;unfold AZ
   by_cases h:b=c
   ·subst h
    rw[beq_self_eq_true,if_pos rfl,if_pos (by omega)];rfl
   ·have h':(b==c)=false:=by simpa using h
    rw[h',if_neg h,Fi c s]
    by_cases h2:tw c s<s.length
    ·rw[if_pos h2,if_pos (by omega)];rfl
    ·rw[if_neg h2,if_neg (by omega)]
theorem O8 (c:UInt8) (s:List UInt8):∀ p∈AZ c s,p.length≤s.length:=by
 generalize hk:s.length=k
 induction k using Nat.strongRecOn generalizing s with
 | _ k ih =>
   intro p hp
   rw[Fi] at hp
   split at hp
   ·rename_i h
    rcases mem_cons.1 hp with rfl | hp
    ·simp;omega
    ·have:=ih (s.drop (tw c s+1)).length (by simp;omega) _ rfl p hp
     simp at this;omega
   ·simp at hp;subst hp;omega
theorem LD (m:UInt8):∀ s,(AZ m s).length≤s.length+1
 | []=>by simp[AZ]
 | c::r=>by
   have:=LD m r
   unfold AZ
   cases c==m with
   | true=>simp;omega
   | false =>
     cases h:AZ m r with
     | nil=>simp
     | cons p ps=>rw[h] at this;simp at this ⊢;omega
noncomputable def SZ (n k:Nat):List UInt8:=(f39 n (k:Int)).getD []
theorem K7 (n:Nat):∀ (m j k:Nat) (s:List UInt8),k<10 ^ j→j+1≤m→s.length+j≤100→k<9223372036854775807→∃ t,f39.l0 n m (k:Int) s=some t∧t.length≤s.length+j
 | 0,j,k,s,h1,h2,h3,h4=>by omega
 | m+1,j,k,s,h1,h2,h3,h4=>by
   rw[f39.l0]
   by_cases hk:k=0
   ·subst hk
    rw[show decide (((0:Nat):Int)>0)=false from rfl]
    exact ⟨s,rfl,by omega⟩
   ·rw[show decide ((k:Int)>0)=true by rw[decide_eq_true_iff];omega]
    have hj:1≤j:=by
     cases j with
     | zero=>simp at h1;omega
     | succ j=>omega
    have hq:IntKind.i64.wrap (Int.tdiv (k:Int) 10)=((k / 10:Nat):Int):=by
     rw[Int.tdiv_eq_ediv_of_nonneg (by omega),DB (by omega) (by omega)];omega
    have hpush:Cb (Aj (reps 1 [(T.int IntKind.u8 (0:Int))]) 0 [(T.int IntKind.u8 (IntKind.u8.wrap (IntKind.i64.wrap ((48:Int)+Int.tmod (k:Int) 10))))])=some [UInt8.ofNat (48+k % 10)]:=by
     rw[Tv];exact Gi [UInt8.ofNat (48+k % 10)]
    have hk10:k / 10<10 ^ (j - 1):=by
     cases j with
     | zero=>omega
     | succ j =>
       rw[Nat.pow_succ] at h1
       simp only[Nat.add_sub_cancel]
       omega
    obtain ⟨t,ht,hl⟩:=K7 n m (j - 1) (k / 10) ([UInt8.ofNat (48+k % 10)]++s) hk10 (by omega) (by simp;omega) (by omega)
    simp only[br,hpush,bd,hq]
    rw[show decide (([UInt8.ofNat (48+k % 10)].length+s.length)≤4611686018427387904)=true by rw[decide_eq_true_iff];simp;omega]
    exact ⟨t,by simpa only[gd] using ht,by simp at hl;omega⟩
theorem P7 (n:Nat) (hn:30≤n) (k:Nat) (hk:k<1000000000):f39 n (k:Int)=some (SZ n k):=by
 obtain ⟨n,rfl⟩:∃ j,n=j+1:=⟨n - 1,by omega⟩
 have:∃ t,f39 (n+1) (k:Int)=some t:=by
  rw[f39]
  by_cases h:k=0
  ·subst h;exact ⟨_,rfl⟩
  ·rw[show decide ((k:Int)≤0)=false by rw[decide_eq_false_iff_not];omega]
   obtain ⟨t,ht,hl⟩:=K7 n n 9 k [] (Nat.lt_of_lt_of_le hk (by decide)) (by omega) (by simp) (by omega)
   simp only[br,ht,bd]
   rw[show decide (1+t.length≤4611686018427387904)=true by rw[decide_eq_true_iff];simp at hl;omega]
   exact ⟨_,rfl⟩
 obtain ⟨t,ht⟩:=this
 unfold SZ
 rw[ht];rfl
noncomputable def Cs (n j k:Nat):List (List UInt8):=(List.range k).map fun t=>SZ n (j+t)
theorem P3 (l:List (List UInt8)) (i:Nat) (s:List UInt8):Aj (BR l) i [T.str s]=BR (l.set i s):=by
 simp[BR,Aj,List.map_set]
theorem LS (n:Nat) (hn:30≤n) (L:Nat) (hL:L<100000000):∀ (m i:Nat) (l:List (List UInt8)),L+1≤m+i→i≤L→l.length=L→l.take i=Cs n 1 i →
  f14.l0 n m L (BR l) ((i+1:Nat):Int) (i:Int)=some (L,BR (Cs n 1 L),((L+1:Nat):Int))
 | 0,i,l,h1,h2,h3,h4=>by omega
 | m+1,i,l,h1,h2,h3,h4=>by
   rw[f14.l0]
   rcases Nat.lt_or_ge i L with h | h
   ·rw[Gu h,Fh h,P7 n hn (i+1) (by omega)]
    simp only[br,bd,gd,zT]
    rw[show Nat.ble (i+1) (BR l).length=true by rw[Nat.ble_eq];simp[BR];omega]
    simp only[P3]
    rw[Bb (by omega),Bb (by omega)]
    refine LS n hn L hL m (i+1) _ (by omega) (by omega) (by simpa using h3) ?_
    rw[List.take_set,List.take_add_one,h4]
    rw[List.getElem?_eq_getElem (by omega)]
    have hm:(Cs n 1 i).length=i:=by simp[Cs]
    rw[Option.toList_some,List.set_append_right _ _ (by omega),hm,Nat.sub_self]
    simp only[List.set_cons_zero]
    unfold Cs
    rw[List.range_succ,map_append]
    show _++[SZ n (i+1)]=_++[SZ n (1+i)]
    rw[Nat.add_comm 1 i]
   ·rw[E9 h]
    obtain rfl:i=L:=by omega
    simp only[br]
    rw[← h4,← h3,take_length]
theorem K9 (n:Nat) (hn:30≤n) (L:Nat) (hL:L<100000000):∀ (m i:Nat),L+1≤m+i→i≤L →
  f15.l0 n m L (BR (Cs n 1 L)) ((i+1:Nat):Int) (i:Int)=some (Sum.inr ((L+1:Nat):Int))
 | 0,i,h1,h2=>by omega
 | m+1,i,h1,h2=>by
   rw[f15.l0]
   rcases Nat.lt_or_ge i L with h | h
   ·have hl:(Cs n 1 L).length=L:=by simp[Cs]
    rw[Gu h,Fh h,P7 n hn (i+1) (by omega),zT,Oj (by omega),JT]
    have hg:(Cs n 1 L).getD i []=SZ n (i+1):=by
     simp[Cs,List.getD,h,Nat.add_comm 1 i]
    rw[hg]
    simp only[br,bd,gd,Bool.and_true,beq_self_eq_true,Bool.not_true]
    rw[Bb (by omega),Bb (by omega)]
    exact K9 n hn L hL m (i+1) (by omega) (by omega)
   ·rw[E9 h]
    obtain rfl:i=L:=by omega
    rfl
theorem SN (n:Nat) (l:List (List UInt8)) (h:l.length<n) (hn:30≤n) (hL:l.length<100000000):f14 (n+1) l.length (BR l) 1=some (((l.length+1:Nat):Int),l.length,BR (Cs n 1 l.length)):=by
 rw[f14]
 have:=LS n hn l.length hL n 0 l (by omega) (by omega) rfl rfl
 rw[show (((0+1:Nat)):Int)=1 from rfl,show ((0:Nat):Int)=0 from rfl] at this
 rw[this]
 rfl
theorem Rz (n L:Nat) (h:L<n) (hn:30≤n) (hL:L<100000000):f15 (n+1) L (BR (Cs n 1 L)) 1=some ((L+1:Nat):Int):=by
 rw[f15]
 have:=K9 n hn L hL n 0 (by omega) (by omega)
 rw[show (((0+1:Nat)):Int)=1 from rfl,show ((0:Nat):Int)=0 from rfl] at this
 rw[this]
 rfl
theorem Oe (n:Nat) (l:List (List UInt8)) (hL:l.length<100000000):∀ (m i:Nat),l.length+1≤m+i→i≤l.length→f11.l0 n m l.length (BR l) l.length (BR l) (i:Int)=some (Sum.inr ())
 | 0,i,h1,h2=>by omega
 | m+1,i,h1,h2=>by
   rw[f11.l0]
   rcases Nat.lt_or_ge i l.length with h | h
   ·rw[Gu h,Fh h,zT,Oj h]
    simp only[br,gd,Bool.and_true,beq_self_eq_true,Bool.not_true]
    rw[Bb (by omega)]
    exact Oe n l hL m (i+1) (by omega) (by omega)
   ·rw[E9 h]
    rfl
theorem TS (n:Nat) (l:List (List UInt8)) (h:l.length<n) (hL:l.length<100000000):f11 (n+1) l.length (BR l) l.length (BR l)=some true:=by
 rw[f11]
 have:=Oe n l hL n 0 (by omega) (by omega)
 rw[show ((0:Nat):Int)=0 from rfl] at this
 rw[show ((((l.length:Nat):Int)) != ((l.length:Nat):Int))=false by simp,this]
 rfl
theorem Rj {c:UInt8}:∀ {s:List UInt8} (h:tw c s<s.length),s[tw c s]=c
 | [],h=>by simp at h
 | b::s,h=>by
   by_cases hb:b=c
   ·have e:tw c (b::s)=0:=by rw[GK,if_pos hb]
    simp only[e,List.getElem_cons_zero];exact hb
   ·have e:tw c (b::s)=tw c s+1:=by rw[GK,if_neg hb]
    simp only[e,List.getElem_cons_succ]
    exact Rj (by rw[e] at h;simpa using h)
theorem K3 {c:UInt8}:∀ {s:List UInt8} {k:Nat} (h:k<tw c s) (hl:k<s.length),s[k]≠c
 | [],k,h,hl=>by simp at hl
 | b::s,k,h,hl=>by
   by_cases hb:b=c
   ·rw[GK,if_pos hb] at h;omega
   ·rw[GK,if_neg hb] at h
    cases k with
    | zero=>simpa using hb
    | succ k=>simpa using K3 (s:=s) (k:=k) (by omega) (by simpa using hl)
noncomputable def FQ:List (List UInt8)→Int→List (List UInt8) × Int
 | [],_=>([],0)
 | p::ps,c=>if tw 32 p<p.length∧p.take (tw 32 p)=Lib.itoa (Cy c (p.drop (tw 32 p+1))) then
    (p.drop (tw 32 p+1)::(FQ ps (Cy c (p.drop (tw 32 p+1)))).1,(p.length:Int)+1+(FQ ps (Cy c (p.drop (tw 32 p+1)))).2) else ([],0)
theorem NZ:∀ (ps:List (List UInt8)) (c:Int),(FQ ps c).1.length≤ps.length
 | [],c=>by simp[FQ]
 | p::ps,c=>by
   rw[FQ]
   split
   ·have:=NZ ps (Cy c (p.drop (tw 32 p+1)))
    simp;omega
   ·simp
theorem Qt (n:Nat) (ps:List (List UInt8)) (i:Nat) (p:List UInt8) (hi:i<ps.length) (hp:ps[i]=p) (hl:p.length<1000000) (n3:Nat) (l4:List T) (i5 i6:Int):∀ (m k:Nat),p.length+1≤m+k→k≤tw 32 p →
  f12.l1 n m ps.length (BR ps) n3 l4 i5 i6 (i:Int) (k:Int)=some (ps.length,BR ps,n3,l4,i5,i6,(i:Int),((tw 32 p:Nat):Int))
 | 0,k,h1,h2=>by have:=P5 32 p;omega
 | m+1,k,h1,h2=>by
   have htw:=P5 32 p
   have hg:ps.getD i []=p:=by simp[List.getD,hi,hp]
   rw[f12.l1,Fh hi]
   simp only[zT]
   rw[Oj hi]
   simp only[JT,hg]
   rcases Nat.lt_or_ge k p.length with h | h
   ·rw[Gu h,Fh h,Gp h]
    simp only[gd,br]
    rcases Nat.lt_or_ge k (tw 32 p) with h3 | h3
    ·have hne:((((p[k].toNat:Nat):Int)) != 32)=true:=by
      rw[bne_iff_ne]
      intro e
      exact K3 h3 h (UInt8.toNat_inj.1 (by show p[k].toNat=32;omega))
     rw[hne,Bb (by omega)]
     exact Qt n ps i p hi hp hl n3 l4 i5 i6 m (k+1) (by omega) (by omega)
    ·obtain rfl:k=tw 32 p:=by omega
     rw[Rj h]
     rfl
   ·rw[E9 h]
    obtain rfl:k=tw 32 p:=by omega
    rfl
set_option maxRecDepth 20000 in
theorem Rp (n:Nat) (hn:20000≤n) (ps:List (List UInt8)) (hps:∀ p∈ps,p.length≤8000) (hlen:ps.length≤8001):∀ (m i:Nat) (acc:List (List UInt8)) (c t:Int),ps.length+1≤m+i→i≤ps.length→acc.length≤i→0≤c→c≤65002→0≤t→t≤(i:Int) * 8001 →
  f12.l0 n m ps.length (BR ps) acc.length (BR acc) c t (i:Int)=some ((acc++(FQ (ps.drop i) c).1).length,BR (acc++(FQ (ps.drop i) c).1),t+(FQ (ps.drop i) c).2)
 | 0,i,acc,c,t,h1,h2,h3,h4,h5,h6,h7=>by omega
 | m+1,i,acc,c,t,h1,h2,h3,h4,h5,h6,h7=>by
   rw[f12.l0]
   rcases Nat.lt_or_ge i ps.length with h | h
   ·obtain ⟨p,hp⟩:∃ p,ps[i]=p:=⟨_,rfl⟩
    have hpl:p.length≤8000:=hps p (hp ▸ List.getElem_mem h)
    have htw:=P5 32 p
    have hg:ps.getD i []=p:=by simp[List.getD,h,hp]
    have hsc:=Qt n ps i p h hp (by omega) acc.length (BR acc) c t n 0 (by omega) (by omega)
    rw[show ((0:Nat):Int)=0 from rfl] at hsc
    have hdr:ps.drop i=p::ps.drop (i+1):=by rw[drop_eq_getElem_cons h,hp]
    rw[Gu h,hsc,hdr]
    simp only[br,bd]
    rw[Fh h,zT,Oj h]
    simp only[gd,JT,hg]
    rcases Nat.lt_or_ge (tw 32 p) p.length with ht | ht
    ·have hne:((((tw 32 p:Nat):Int))==((p.length:Nat):Int))=false:=by rw[beq_eq_false_iff_ne];omega
     have hlin:(p.drop (tw 32 p+1)).length≤8000:=by simp;omega
     have hcr:=G8 (p.drop (tw 32 p+1)) h4 h5
     have e1:f35 n c (p.drop (tw 32 p+1))=some (Cy c (p.drop (tw 32 p+1))):=by
      have:=Rb (n - 1) (p.drop (tw 32 p+1)) (by omega) (by omega) h4 h5
      rwa [show n - 1+1=n by omega] at this
     have e2:f36 n (Cy c (p.drop (tw 32 p+1)))=some (Lib.itoa (Cy c (p.drop (tw 32 p+1)))):=by
      have:=S0 (n - 1) (by omega) hcr.1 (by omega:Cy c (p.drop (tw 32 p+1))≤1000000000000000000)
      rwa [show n - 1+1=n by omega] at this
     have e3:List.take (p.length - (tw 32 p+1)) (List.drop (tw 32 p+1) p)=p.drop (tw 32 p+1):=by
      rw[List.take_of_length_le];simp
     rw[hne,Bb (by omega)]
     simp only[zT,e3,e1,e2]
     rw[show decide ((0:Int)≤((tw 32 p+1:Nat):Int)∧((tw 32 p+1:Nat):Int)≤((p.length:Nat):Int)∧((p.length:Nat):Int)≤((p.length:Nat):Int))=true by rw[decide_eq_true_iff];omega]
     rw[show decide ((0:Int)≤(0:Int)∧(0:Int)≤((tw 32 p:Nat):Int)∧((tw 32 p:Nat):Int)≤((p.length:Nat):Int))=true by rw[decide_eq_true_iff];omega]
     simp only[drop_zero,Nat.sub_zero]
     rw[FQ]
     by_cases hw:p.take (tw 32 p)=Lib.itoa (Cy c (p.drop (tw 32 p+1)))
     ·rw[if_pos ⟨ht,hw⟩,show (p.take (tw 32 p)==Lib.itoa (Cy c (p.drop (tw 32 p+1))))=true by rw[beq_iff_eq];exact hw]
      simp only[Bool.not_true]
      rw[show Nat.ble (acc.length+1) 2147483648=true by rw[Nat.ble_eq];omega]
      simp only[LH]
      rw[DB (x:=((p.length:Nat):Int)+1) (by omega) (by omega),DB (x:=t+(((p.length:Nat):Int)+1)) (by omega) (by omega),Bb (by omega)]
      have ih:=Rp n hn ps hps hlen m (i+1) (acc++[p.drop (tw 32 p+1)]) (Cy c (p.drop (tw 32 p+1))) (t+(((p.length:Nat):Int)+1)) (by omega) (by omega) (by simp;omega) hcr.1 hcr.2 (by omega) (by omega)
      rw[length_append,length_singleton] at ih
      rw[ih,append_assoc,Int.add_assoc]
      rfl
     ·rw[if_neg (fun hh=>hw hh.2),show (p.take (tw 32 p)==Lib.itoa (Cy c (p.drop (tw 32 p+1))))=false by rw[beq_eq_false_iff_ne];exact hw]
      simp
    ·have hne:((((tw 32 p:Nat):Int))==((p.length:Nat):Int))=true:=by rw[beq_iff_eq];omega
     rw[hne,FQ,if_neg (fun hh=>by omega)]
     simp
   ·rw[E9 h,drop_eq_nil_of_le h]
    simp[br,FQ]
theorem Nq (s:List UInt8) (h:tw 10 s<s.length):(AZ 10 s).dropLast=s.take (tw 10 s)::(AZ 10 (s.drop (tw 10 s+1))).dropLast:=by
 rw[Fi,if_pos h]
 cases hc:AZ 10 (s.drop (tw 10 s+1)) with
 | nil =>
   rw[Fi] at hc
   split at hc <;>simp at hc
 | cons a b=>rfl
theorem Rm (n:Nat) (hn:20000≤n):∀ (m:Nat) (rest:List UInt8) (acc:List (List UInt8)) (c t:Int),rest.length+2≤m→rest.length≤8000→acc.length+rest.length≤8001→0≤c→c≤65002→0≤t→t+(rest.length:Int)≤100000 →
  f13.l0 n m acc.length (BR acc) c t rest=some ((acc++(FQ (AZ 10 rest).dropLast c).1).length,BR (acc++(FQ (AZ 10 rest).dropLast c).1),t+(FQ (AZ 10 rest).dropLast c).2,true)
 | 0,rest,acc,c,t,h1,h2,h3,h4,h5,h6,h7=>by omega
 | m+1,rest,acc,c,t,h1,h2,h3,h4,h5,h6,h7=>by
   have hcut:∀ (x:List UInt8) (b:UInt8),x.length≤8000→ME n x [b]=some (Lib.cut x [b]):=fun x b hx=>by
    obtain ⟨k,rfl⟩:∃ k,n=k+1:=⟨n - 1,by omega⟩
    simp only[ME]
    rw[if_pos (by omega)]
   have hchk:∀ x:List UInt8,x.length≤8000→f29 n c x=some (Cy c x,true):=fun x hx=>by
    have:=Qx (n - 1) x (by omega) (by omega) h4 h5
    rwa [show n - 1+1=n by omega] at this
   rw[f13.l0,hcut rest 10 h2,Lv 10 rest]
   by_cases hr:tw 10 rest<rest.length
   ·rw[if_pos hr,Nq rest hr]
    simp only[bd]
    obtain ⟨p,hp⟩:∃ p,p=rest.take (tw 10 rest):=⟨_,rfl⟩
    have hpl:p.length=tw 10 rest:=by rw[hp,length_take];omega
    rw[← hp,hcut p 32 (by omega),Lv 32 p,FQ]
    by_cases ht:tw 32 p<p.length
    ·rw[if_pos ht]
     have hlin:(p.drop (tw 32 p+1)).length≤8000:=by simp;omega
     have hcr:=G8 (p.drop (tw 32 p+1)) h4 h5
     have e2:f31 n (Cy c (p.drop (tw 32 p+1)))=some (Lib.itoa (Cy c (p.drop (tw 32 p+1)))):=by
      have:=Sz (n - 2) (c:=Cy c (p.drop (tw 32 p+1))) (by omega) (by omega)
      rwa [show n - 2+2=n by omega] at this
     have e3:∀ x,f38 n x=some x:=fun x=>by
      obtain ⟨k,rfl⟩:∃ k,n=k+1:=⟨n - 1,by omega⟩
      rfl
     simp only[bd,hchk _ hlin,br,Bool.not_true,e2,e3]
     by_cases hw:p.take (tw 32 p)=Lib.itoa (Cy c (p.drop (tw 32 p+1)))
     ·rw[if_pos ⟨ht,hw⟩,show (p.take (tw 32 p)==Lib.itoa (Cy c (p.drop (tw 32 p+1))))=true by rw[beq_iff_eq];exact hw]
      simp only[Bool.not_true,gd]
      rw[show Nat.ble (acc.length+1) 2147483648=true by rw[Nat.ble_eq];omega]
      simp only[LH]
      rw[DB (x:=((p.length:Nat):Int)+1) (by omega) (by omega),DB (x:=t+(((p.length:Nat):Int)+1)) (by omega) (by omega)]
      have ih:=Rm n hn m (rest.drop (tw 10 rest+1)) (acc++[p.drop (tw 32 p+1)]) (Cy c (p.drop (tw 32 p+1))) (t+(((p.length:Nat):Int)+1)) (by simp;omega) (by simp;omega) (by simp;omega) hcr.1 hcr.2 (by omega) (by simp;omega)
      rw[length_append,length_singleton] at ih
      rw[ih,append_assoc,Int.add_assoc]
      rfl
     ·rw[if_neg (fun hh=>hw hh.2),show (p.take (tw 32 p)==Lib.itoa (Cy c (p.drop (tw 32 p+1))))=false by rw[beq_eq_false_iff_ne];exact hw]
      simp
    ·rw[if_neg ht,if_neg (fun hh=>ht hh.1)]
     simp only[bd,hchk [] (by simp),br,Bool.not_true,Bool.not_false]
     simp
   ·rw[if_neg hr]
    have hl:(Lib.cut rest [32]).2.1.length≤8000:=by
     rw[Lv]
     split <;>simp <;>omega
    have hd:(AZ 10 rest).dropLast=[]:=by rw[Fi,if_neg hr];rfl
    simp only[bd,hcut rest 32 h2,hchk _ hl,br,Bool.not_false]
    rw[hd]
    simp[FQ]
theorem TY (n:Nat) (hn:20000≤n) (s:List UInt8):∃ (l:List (List UInt8)) (k:Int) (b:Bool),l.length≤8001∧f12 (n+1) s=some (l.length,BR l,k,b)∧f13 (n+1) s=some (l.length,BR l,k,b):=by
 rw[f12,f13]
 by_cases h:s.length≤8000
 ·have hd:decide (((s.length:Nat):Int)>8000)=false:=by rw[decide_eq_false_iff_not];omega
  have hx:Fb n s=some ((AZ 10 s).length - 1,BR (AZ 10 s).dropLast,(AZ 10 s).getLastD []):=by
   obtain ⟨k,rfl⟩:∃ k,n=k+1:=⟨n - 1,by omega⟩
   simp only[Fb]
   rw[if_pos (by omega)]
   rfl
  have hcl:=LD 10 s
  have hcl':(AZ 10 s).dropLast.length=(AZ 10 s).length - 1:=List.length_dropLast
  have e1:=Rp n hn (AZ 10 s).dropLast (fun p hp=>by have:=O8 10 s p (List.dropLast_subset _ hp);omega) (by omega) n 0 [] 0 0 (by omega) (by omega) (by simp) (by omega) (by omega) (by omega) (by omega)
  have e2:=Rm n hn n s [] 0 0 (by omega) (by omega) (by simp;omega) (by omega) (by omega) (by omega) (by omega)
  rw[hcl',show ((0:Nat):Int)=0 from rfl,drop_zero,nil_append] at e1
  rw[nil_append] at e2
  refine ⟨(FQ (AZ 10 s).dropLast 0).1,0+(FQ (AZ 10 s).dropLast 0).2,true,?_,?_,?_⟩
  ·have:=NZ (AZ 10 s).dropLast 0;omega
  ·rw[hd,hx]
   simp only[br,bd]
   rw[show (reps 0 [T.str []])=BR [] from rfl]
   rw[length_nil] at e1
   rw[e1]
  ·rw[hd]
   simp only[br]
   rw[length_nil,show BR []=[] from rfl] at e2
   rw[e2]
   rfl
 ·have hd:decide (((s.length:Nat):Int)>8000)=true:=by rw[decide_eq_true_iff];omega
  rw[hd]
  exact ⟨[],0,false,by simp,rfl,rfl⟩
theorem S5 (n:Nat) (s:List UInt8):f4 (n+30000) s=some true:=by
 obtain ⟨l,k,b,hl,h1,h2⟩:=TY (n+29998) (by omega) s
 rw[f4]
 cases decide (((s.length:Nat):Int)>1048576)
 case true=>rfl
 have h1:f12 (n+29999) s=_:=h1
 have h2:f13 (n+29999) s=_:=h2
 have h3:f11 (n+29999) l.length (BR l) l.length (BR l)=some true:=TS (n+29998) l (by omega) (by omega)
 have h4:f14 (n+29999) l.length (BR l) 1=_:=SN (n+29998) l (by omega) (by omega) (by omega)
 have h5:f15 (n+29999) l.length (BR (Cs (n+29998) 1 l.length)) 1=_:=Rz (n+29998) l.length (by omega) (by omega) (by omega)
 simp only[br,bd,h1,h2,h3,h4,h5,Bool.not_true,bne_self_eq_false,beq_self_eq_true]
 rw[show decide (((l.length+1:Nat):Int)<0)=false by rw[decide_eq_false_iff_not];omega]
theorem R1 (s:List UInt8) (_:s.length≤maxLen):∃ n,f4 n s=some true:=⟨30000,S5 0 s⟩
theorem law4:∀ args,Ch E Tryd.f4.params.toList args→∃ N os,AM E N 4 args=some ⟨[⟨false,[.leaf],[.bool true]⟩],os⟩:=by
 intro args h0
 have hp:Tryd.f4.params.toList=[9]:=by kernel_rfl
 rw[hp] at h0
 obtain ⟨ts0,r0,rfl,hw0,h1⟩:=h0.cons_inv (d:=⟨false,1,16,[.leaf],[.str []],.str⟩) (by kernel_rfl)
 obtain ⟨a0,rfl,g0⟩:=hw0.str_inv (d:=⟨false,1,16,[.leaf],[.str []],.str⟩) (by kernel_rfl) rfl
 obtain rfl:=h1.nil_inv
 obtain ⟨N,hN⟩:=R1 a0 g0
 exact ⟨N,_,f4.ok N (a0) true hN⟩
end Go.Proofs.YtokonabdnlckdaaDoor.D
end
section
namespace Go.Proofs.YtokonabdnlckdaaDoor.fnExactRecoverJournal
open Go Go.ChangeShapes Go.WideShapes Go.ChangeAt Go.RowKit Go.Desk
set_option linter.unusedVariables false
theorem own:ownKnob Tryd.prog.godebug=none:=by kernel_rfl
theorem laidOut:laidOutB Tryd.prog=true:=by kernel_rfl
def laids : List (String × DataW Unit) := [("math/bits.deBruijn32tab", Rows.laid_math_bits_deBruijn32tab), ("math/bits.deBruijn64tab", Rows.laid_math_bits_deBruijn64tab), ("internal/strconv.uint64pow10", Rows.laid_internal_strconv_uint64pow10)]
theorem door_met (os:Os) (args:Array Value):laidMetH Tryd.prog laids ((World.doorLaid Tryd.prog 4000 os).forCall (fun _ _=>0) ⟨#[],args,[]⟩).memory :=
 laidMetH_of_parts3 (fuel:=8) (laidMet_of_run' 8 (by kernel_rfl) (by kernel_rfl)) (by kernel_rfl) (by kernel_rfl)
theorem leans {W:World} (hsh:W.ShapedOpen Tryd.prog) (hL:laidMetH Tryd.prog laids W):Laid Tryd.prog D.E.laid W (fun b=>b<W.heap.size):=by
 rw[MakeChecks.laidMetH_plain _ _ _ (by kernel_rfl)] at hL
 intro n hn
 have hn : n ∈ ["internal/bytealg.MaxLen", "internal/strconv.uint64pow10"] := hn
 simp only[mem_cons,List.mem_nil_iff,or_false] at hn
 rcases hn with rfl | rfl
 ·rw[laidIs_maxLen]
  exact laid_int (g:=0) (t:=3) (zero:=#[.int .i64 0]) hsh (by kernel_rfl) (of_decide_eq_true (by kernel_rfl)) (by kernel_rfl) (by kernel_rfl) (by kernel_rfl) (by kernel_rfl) (by kernel_rfl)
 ·rw[laidIs_pow10]
  have e:(Rows.laid_internal_strconv_uint64pow10:DataW Unit)=Lib.tabData .u64 Lib.pow10Tab:=by kernel_rfl
  have hm : ("internal/strconv.uint64pow10", Lib.tabData (H := Unit) .u64 Lib.pow10Tab) ∈ laids := by rw [← e]; exact (List.Mem.tail _ (List.Mem.tail _ (List.Mem.head _)))
  exact tab_of_reads (g:=2) (t:=161) (e:=95) (n:=20) (by kernel_rfl) (by kernel_rfl) (by kernel_rfl) (by kernel_rfl) (by kernel_rfl) (by kernel_rfl) (Lib.laidMet.reads hL hm) (by decide)
set_option maxRecDepth 100000 in
theorem lifted (os:Os) (started:os.Started) (H:Type) (enc:TypeId × Value→H) :
  ReturnsInHanded {} Tryd.checked os 4 .any (fun w args=>(Rows.fnExactRecoverJournalSpec.pre enc Tryd.prog Tryd.f4 Rows.fnExactRecoverJournalRow.domain false w args∧laidMetH Tryd.prog laids w)∧sizedMet enc Tryd.prog Tryd.f4 (OpenSpec.ofChange Rows.fnExactRecoverJournalSpec) false w args) (Rows.fnExactRecoverJournalSpec.post enc Tryd.prog Tryd.f4 false true false false):=by
 refine handed_laid (C:=Tryd.checked) (X:=fun w _=>laidMetH Tryd.prog laids w) (fun _ _ _ hh h=>h.of_heap hh) own started (by kernel_rfl) Tryd.func4
  (ChangeSpec.witness_shaped (enc:=enc) (C:=Tryd.checked) (os:=os) (X:=fun w _=>laidMetH Tryd.prog laids w) false (World.doorLaid Tryd.prog 4000 os) #[.string ByteArray.empty] 8 rfl (World.shaped_of_RefB (by kernel_rfl) (by kernel_rfl)) (by kernel_rfl) (by kernel_rfl) (by kernel_rfl) (door_met os _)) ?_
 intro W base args ds gs before hval hW hL hsh
 exact law_contract (c:=D.c4) Tryd.checked.mixed D.tysOk D.fnOk Tryd.func4 (by kernel_rfl) (by kernel_rfl) (by kernel_rfl) Tryd.underlying4 rfl
  (fun ds h=>by
    rw[show Tryd.f4.params.toList.length=1 by kernel_rfl] at h
    match ds,h with
    | [_],_=>rfl)
  laidOut (N:=8) (by kernel_rfl) (by kernel_rfl) D.law4 (leans hsh hL) hval hW
theorem over:Rows.fnExactRecoverJournalRow.holds Tryd.pinned (OpenSpec.ofChange Rows.fnExactRecoverJournalSpec) :=
 OpenClaim.holds_of_wide 4 Tryd.f4 rfl rfl rfl rfl rfl rfl rfl ⟨rfl,rfl,rfl,rfl,rfl⟩ rfl rfl rfl rfl rfl (by kernel_rfl) Tryd.func4 (by kernel_rfl)
  (of_decide_eq_true (by kernel_rfl)) (by unfold Func.isWrapper;first | (rw[if_pos (by decide +kernel)];kernel_rfl) | (rw[if_neg (by decide +kernel)];exact ⟨rfl,rfl⟩))
  (fun os started H enc _=>lifted os started H enc)
theorem card:Rows.FnExactRecoverJournalCardSaid :=
 Claim7.holds_tied_plain_at .later [] [.data, .data, .data] true (true, "96a24e819fef870dbceee838b31527416c8cb6864fa3095e2f58d56412470322") true
  over (fun _ h=>by cases h) (by kernel_rfl) (fun _ h=>by cases h) fnExactRecoverJournal_row_tie rfl ⟨rfl,rfl⟩ (by kernel_rfl) rfl
  (fun f fn hf hfn=>by
    obtain rfl : f = 4 := Option.some.inj ((show Tryd.prog.funcNamed "loop.example/g01170/laws.FnExactRecoverJournal" = some 4 by kernel_rfl).symm.trans hf) |>.symm
    obtain rfl:fn=Tryd.f4:=(Option.some.inj (Tryd.func4.symm.trans hfn)).symm
    exact ⟨by kernel_rfl,fun j t ht=>by
     rw[Tryd.params4] at ht
     rcases j with _ | j
     ·obtain rfl:9=t:=by simpa using ht
      exact (show Tryd.prog.wantsStandIn 9=false by kernel_rfl)
     simp at ht⟩)
  (by kernel_rfl)
#print axioms card
end Go.Proofs.YtokonabdnlckdaaDoor.fnExactRecoverJournal
namespace Go.Proofs.YtokonabdnlckdaaDoor
theorem fnExactRecoverJournal_holds:Rows.FnExactRecoverJournalCardSaid:=fnExactRecoverJournal.card
end Go.Proofs.YtokonabdnlckdaaDoor
end
