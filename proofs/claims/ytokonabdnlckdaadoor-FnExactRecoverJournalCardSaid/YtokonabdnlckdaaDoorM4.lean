/- FnExactRecoverJournal holds: for every input the law returns true, and its arguments read as before; what its row lists is tied to the text. -/
import Derived.Shelf.LaysM
import Derived.Shelf.Strconv.Itoa4
import Derived.Shelf.Strings.Search3
import Derived.Shelf.Strings.Cut
import Derived.Test.YtokonabdnlckdaaDoorChecked
import Derived.Shelf.SlicesE.Kit
import Derived.Shelf.RegionOpenPlain
import Derived.WalkKit
import Derived.Deep.LoopGhost
import Derived.Deep.RegionLaw
import Derived.Deep.MidRow
import Derived.Lib.Walk
import Derived.Sort.WalkB12
import Derived.Lib.SliceRun
import Derived.Lib.SlicesDelete
import Derived.Lib.SlicesMore
import Derived.Lib.SlicesCompact
import Derived.KernelRfl
import Derived.Deep.QuietTactic
import Derived.BigQuiet
import Derived.Test.YtokonabdnlckdaaDoorRows
import Derived.Test.YtokonabdnlckdaaDoorCards
import Derived.Test.YtokonabdnlckdaaDoorTie
import Derived.ProofKit
import Derived.OpenShut
import Derived.ShutString
import Derived.ChangeOld
import Derived.Below
import Derived.SizedLaws
import Derived.SevenTiedAt
import Derived.MakeChecks
import Derived.LaidMore
import Derived.LaidLaws
import Derived.LaidHandle
import Derived.Test.YtokonabdnlckdaaDoorM4c
set_option linter.all false
set_option linter.unusedVariables false
open List (all_cons all_eq_true any_eq_false any_eq_true append_assoc append_nil cons_append count_append drop_drop drop_eq_getElem_cons drop_eq_nil_of_le drop_left' drop_zero flatMap_cons flatMap_def flatten_cons foldl_cons length_append length_cons length_eq_one_iff length_eq_zero_iff length_map length_nil length_singleton length_take mapM_cons map_append map_congr_left map_cons map_map map_nil mem_append mem_append_left mem_append_right mem_cons mem_cons_of_mem mem_cons_self mem_flatten mem_map mem_singleton nil_append nodup_append nodup_cons perm_append_comm perm_iff_count perm_middle replicate_succ take_append_drop take_left' take_length take_succ_cons take_zero)
section
namespace Go.Desk
open Go
def p2 (e:Int):Rat:=(2:Rat) ^ e
theorem Gv (e:Int):0<p2 e:=Rat.zpow_pos (by decide)
theorem IR (a b:Int):p2 (a+b)=p2 a * p2 b:=Rat.zpow_add (by decide) a b
theorem E8:p2 0=1:=Rat.zpow_zero _
theorem MD (n:Nat):p2 (n:Int)=((2 ^ n:Nat):Rat):=by
 induction n with
 | zero=>exact E8
 | succ n ih =>
   rw[show ((n+1:Nat):Int)=(n:Int)+1 by omega,IR,ih,Nat.pow_succ,Rat.natCast_mul,show p2 1=(2:Rat) from Rat.zpow_one _]
   rfl
theorem PX (n:Nat):1≤p2 (n:Int):=by
 rw[MD]
 have:1≤2 ^ n:=Nat.one_le_two_pow
 exact_mod_cast this
theorem Ia {a b:Int} (h:a≤b):p2 a≤p2 b:=by
 obtain ⟨n,hn⟩:=Int.eq_ofNat_of_zero_le (show 0≤b - a by omega)
 rw[show b=a+(n:Int) by omega,IR]
 have:=Rat.mul_le_mul_of_nonneg_left (PX n) (Rat.le_of_lt (Gv a))
 rwa [Rat.mul_one] at this
theorem Pe {a b:Int} (h:a<b):p2 a<p2 b:=by
 have h1:p2 (a+1)≤p2 b:=Ia (by omega)
 have h2:p2 (a+1)=p2 a * 2:=by rw[IR,show p2 1=(2:Rat) from Rat.zpow_one _]
 have h3:=Gv a
 grind
def mv (m:Nat) (e:Int):Rat:=(m:Rat) * p2 e
theorem Ak (m:Nat) (e:Int):0≤mv m e:=Rat.mul_nonneg (by exact_mod_cast Nat.zero_le m) (Rat.le_of_lt (Gv e))
theorem Bs (e:Int):mv 0 e=0:=by unfold mv;rw[show ((0:Nat):Rat)=0 from rfl,Rat.zero_mul]
theorem A7 (m k:Nat) (e:Int):mv (m * 2 ^ k) e=mv m (e+k):=by
 unfold mv
 rw[Rat.natCast_mul,IR,MD]
 grind
theorem Bo {m n:Nat} {e:Int}:mv m e≤mv n e↔m≤n:=by
 unfold mv
 constructor
 ·intro h
  have:=Rat.le_of_mul_le_mul_right h (Gv e)
  exact_mod_cast this
 ·intro h
  exact Rat.mul_le_mul_of_nonneg_right (by exact_mod_cast h) (Rat.le_of_lt (Gv e))
theorem K3 {m n:Nat} {e:Int}:mv m e<mv n e↔m<n:=by
 rw[← Rat.not_le,Bo];omega
theorem R6 (e:Int):mv 1 e=p2 e:=by unfold mv;rw[show ((1:Nat):Rat)=1 from rfl,Rat.one_mul]
theorem CZ (k:Nat) (e:Int):mv (2 ^ k) e=p2 (e+k):=by
 have:=A7 1 k e
 rw[Nat.one_mul] at this
 rw[this,R6]
theorem Jw (s:Bool) (n d B:Nat):(n≤B * 2 ^ d→Ieee.Toward.cut .even s n d≤B)∧(B * 2 ^ d≤n→B≤Ieee.Toward.cut .even s n d):=by
 unfold Ieee.Toward.cut
 simp only[Nat.shiftLeft_eq,Nat.one_mul]
 rcases Nat.lt_or_ge (n.log2+2) d with hd | hd
 ·rw[Nat.min_eq_right (Nat.le_of_lt hd)]
  have h1:n<2 ^ (n.log2+1):=Nat.lt_log2_self
  have h2:2 ^ (n.log2+2)=2 * 2 ^ (n.log2+1):=by rw[Nat.pow_succ];omega
  have h3:n<2 ^ (n.log2+2):=by omega
  rw[Nat.div_eq_of_lt h3,Nat.mod_eq_of_lt h3]
  have hm:(decide (2 ^ (n.log2+2)<2 * n)||(2 ^ (n.log2+2)==2 * n&&(0:Nat) % 2==1))=false:=by
   simp;omega
  rw[hm]
  constructor
  ·intro _;exact Nat.zero_le _
  ·intro h
   have h4:2 ^ (n.log2+2)≤2 ^ d:=Nat.pow_le_pow_right (by decide) (by omega)
   rcases Nat.eq_zero_or_pos B with rfl | hB
   ·exact Nat.zero_le _
   ·have:2 ^ d≤B * 2 ^ d:=Nat.le_mul_of_pos_left _ hB
    omega
 ·rw[Nat.min_eq_left hd]
  have hg:0<2 ^ d:=Nat.two_pow_pos d
  generalize 2 ^ d=g at hg ⊢
  have hn:g * (n / g)+n % g=n:=Nat.div_add_mod n g
  have hr:n % g<g:=Nat.mod_lt _ hg
  generalize hq:n / g=q at hn ⊢
  generalize hrr:n % g=r at hn hr ⊢
  constructor
  ·intro h
   cases hm:(decide (g<2 * r)||(g==2 * r&&q % 2==1))
   ·simp only[Bool.toNat_false,Nat.add_zero]
    have:g * q≤B * g:=by omega
    rw[Nat.mul_comm] at this
    exact Nat.le_of_mul_le_mul_right this hg
   ·simp only[Bool.toNat_true]
    have hr0:0<r:=by
     simp only[Bool.or_eq_true,decide_eq_true_eq,zB,beq_iff_eq] at hm
     omega
    have:g * q<g * B:=by rw[Nat.mul_comm g B];omega
    exact Nat.lt_of_mul_lt_mul_left this
  ·intro h
   have:B≤q:=by
    rw[← hq]
    exact (Nat.le_div_iff_mul_le hg).2 h
   omega
def sg (s:Bool) (v:Rat):Rat:=if s then -v else v
def fval (k:FloatKind) (x:Nat):Rat:=match k.decode x with
 | .number s m e=>sg s (mv m e)
 | _=>0
def EK (k:FloatKind) (B:Rat):Prop:=∃ M P,M≤2 * k.format.binade∧k.format.leastPlace≤P∧B=mv M P
def HF:FloatKind→Int
 | .f32=>128
 | .f64=>1024
theorem Sh (k:FloatKind):∃ K:Nat,2≤K∧k.format.infRung=K * k.format.binade∧HF k=k.format.leastPlace+(k.format.fractionBits:Int)+(K:Int) - 1∧k.format.infRung<k.format.signWeight∧k.format.binade=2 ^ k.format.fractionBits:=by
 cases k
 ·exact ⟨255,by decide,by decide,by decide,by decide,rfl⟩
 ·exact ⟨2047,by decide,by decide,by decide,by decide,rfl⟩
theorem Pk {f:Ieee.Format} {s:Bool} {r:Nat} (h:r<f.signWeight):(f.word s r / f.signWeight % 2==1)=s:=by
 have hp:0<f.signWeight:=by omega
 unfold Ieee.Format.word
 cases s
 ·simp[Nat.div_eq_of_lt h]
 ·simp only[if_true]
  rw[Nat.add_div_left _ hp,Nat.div_eq_of_lt h];rfl
theorem Oi {f:Ieee.Format} {s:Bool} {r:Nat} (h:r<f.signWeight):f.word s r % f.signWeight=r:=by
 unfold Ieee.Format.word
 split
 ·rw[Nat.add_mod_left,Nat.mod_eq_of_lt h]
 ·rw[Nat.mod_eq_of_lt h]
theorem K6 (k:FloatKind) (s:Bool) {j kept:Nat} (h1:kept≤2 * k.format.binade) (h2:0<j→k.format.binade≤kept) (h3:j * k.format.binade+kept<k.format.infRung) :
  ∃ m e,k.format.read (k.format.word s (j * k.format.binade+kept)) = .number s m e∧mv m e=mv kept (k.format.leastPlace+(j:Int))∧m≤2 * k.format.binade∧k.format.leastPlace≤e:=by
 obtain ⟨K,-,-,-,hw,hb⟩:=Sh k
 have hbp:0<k.format.binade:=by rw[hb];exact Nat.two_pow_pos _
 have hr:j * k.format.binade+kept<k.format.signWeight:=by omega
 unfold Ieee.Format.read
 simp only[Pk hr,Oi hr]
 generalize hbb:k.format.binade=b at *
 by_cases c1:j * b+kept<b
 ·rw[if_pos c1]
  have hj:j=0:=by
   rcases Nat.eq_zero_or_pos j with h | h
   ·exact h
   ·have:=Nat.le_mul_of_pos_left b h;omega
  subst hj
  refine ⟨_,_,rfl,?_,by omega,Int.le_refl _⟩
  rw[Nat.zero_mul,Nat.zero_add];simp
 ·rw[if_neg c1,if_pos h3]
  rcases Nat.lt_or_ge kept b with hk | hk
  ·rcases Nat.eq_zero_or_pos j with h | h
   ·subst h;omega
   ·have:=h2 h;omega
  ·rcases Nat.lt_or_ge kept (2 * b) with hk2 | hk2
   ·have e1:(j * b+kept) / b=j+1:=by
     rw[show j * b+kept=(kept - b)+b * (j+1) by rw[Nat.mul_add,Nat.mul_comm b j];omega,Nat.add_mul_div_left _ _ hbp,Nat.div_eq_of_lt (by omega)];omega
    have e2:(j * b+kept) % b=kept - b:=by
     rw[show j * b+kept=(kept - b)+b * (j+1) by rw[Nat.mul_add,Nat.mul_comm b j];omega,Nat.add_mul_mod_self_left,Nat.mod_eq_of_lt (by omega)]
    refine ⟨_,_,rfl,?_,by rw[e2];omega,by rw[e1];omega⟩
    rw[e1,e2,show b+(kept - b)=kept by omega,Nat.add_sub_cancel]
   ·have hk3:kept=2 * b:=by omega
    subst hk3
    have e1:(j * b+2 * b) / b=j+2:=by rw[← Nat.add_mul,Nat.mul_div_cancel _ hbp]
    have e2:(j * b+2 * b) % b=0:=by rw[← Nat.add_mul,Nat.mul_mod_left]
    refine ⟨_,_,rfl,?_,by rw[e2];omega,by rw[e1];omega⟩
    rw[e1,e2,Nat.add_zero,show (j+2 - 1:Nat)=j+1 by omega,show 2 * b=b * 2 ^ 1 by omega,A7]
    congr 1;omega
theorem LI (k:FloatKind) (s:Bool) (m:Nat) (e:Int) {B0:Rat} (hB0:EK k B0) (hv:mv m e≤B0) (hf:B0<p2 (HF k)) :
  ∃ m' e',k.format.read (k.format.nearest s m e) = .number s m' e'∧m'≤2 * k.format.binade∧k.format.leastPlace≤e'∧∀ B,EK k B→(mv m e≤B→mv m' e'≤B)∧(B≤mv m e→B≤mv m' e'):=by
 obtain ⟨K,hK,hinf,htop,hw,hb⟩:=Sh k
 have hbp:0<k.format.binade:=by rw[hb];exact Nat.two_pow_pos _
 unfold Ieee.Format.nearest
 by_cases hm:m=0
 ·subst hm
  rw[if_pos rfl]
  have h3:0 * k.format.binade+0<k.format.infRung:=by rw[hinf,Nat.zero_mul,Nat.zero_add];exact Nat.mul_pos (by omega) hbp
  obtain ⟨m',e',r1,r2,r3,r4⟩:=K6 k s (j:=0) (kept:=0) (Nat.zero_le _) (by omega) h3
  rw[Nat.zero_mul] at r1
  refine ⟨m',e',r1,r3,r4,fun B _ => ?_⟩
  rw[r2,Bs,Bs]
  exact ⟨id,id⟩
 rw[if_neg hm]
 generalize hla:max (e+(m.log2:Int) - (k.format.fractionBits:Int)) k.format.leastPlace=last
 have hl1:k.format.leastPlace≤last:=by omega
 have hl2:e+(m.log2:Int) - (k.format.fractionBits:Int)≤last:=by omega
 have hl3:last≠k.format.leastPlace→last=e+(m.log2:Int) - (k.format.fractionBits:Int):=by omega
 simp only
 generalize hn:m <<< (e - last).toNat=n
 generalize hd:(last - e).toNat=d
 have hval:mv n (last - (d:Int))=mv m e:=by
  rw[← hn,Nat.shiftLeft_eq,A7]
  congr 1;omega
 have hlow:p2 (e+(m.log2:Int))≤mv m e:=by
  have:2 ^ m.log2≤m:=Nat.log2_self_le hm
  have h:=(Bo (e:=e)).2 this
  rwa [CZ] at h
 have hhigh:mv m e<p2 (e+(m.log2:Int)+1):=by
  have:m<2 ^ (m.log2+1):=Nat.lt_log2_self
  have h:=(K3 (e:=e)).2 this
  rw[CZ] at h
  rw[show e+(m.log2:Int)+1=e+((m.log2+1:Nat):Int) by omega];exact h
 generalize hk:Ieee.Toward.cut .even s n d=kept
 have hcut:∀ B:Nat,(mv m e≤mv B last→mv kept last≤mv B last)∧(mv B last≤mv m e→mv B last≤mv kept last):=by
  intro B
  have hB:mv B last=mv (B * 2 ^ d) (last - (d:Int)):=by rw[A7];congr 1;omega
  have:=Jw s n d B
  rw[hk] at this
  rw[Bo,Bo]
  rw[← hval,hB,Bo,Bo]
  exact this
 have hkb:kept≤2 * k.format.binade:=by
  have h:=(hcut (2 * k.format.binade)).1 (by
   rw[hb,show 2 * 2 ^ k.format.fractionBits=2 ^ (k.format.fractionBits+1) by rw[Nat.pow_succ];omega,CZ]
   refine Rat.le_trans (Rat.le_of_lt hhigh) (Ia ?_)
   omega)
  exact Bo.1 h
 have hkl:last≠k.format.leastPlace→k.format.binade≤kept:=by
  intro h
  have h:=(hcut k.format.binade).2 (by
   rw[hb,CZ]
   refine Rat.le_trans (Ia ?_) hlow
   have:=hl3 h
   omega)
  exact Bo.1 h
 have key:∀ B,EK k B→(mv m e≤B→mv kept last≤B)∧(B≤mv m e→B≤mv kept last):=by
  rintro B ⟨M,P,hM,hP,rfl⟩
  by_cases hPl:last≤P
  ·have hB:mv M P=mv (M * 2 ^ (P - last).toNat) last:=by rw[A7];congr 1;omega
   rw[hB];exact hcut _
  ·have hl4:=hl3 (by omega)
   have hMB:mv M P≤mv k.format.binade last:=by
    refine Rat.le_trans (Bo.2 hM) ?_
    rw[hb,show 2 * 2 ^ k.format.fractionBits=2 ^ (k.format.fractionBits+1) by rw[Nat.pow_succ];omega,CZ,CZ]
    exact Ia (by omega)
   have hBm:mv k.format.binade last≤mv m e:=by
    rw[hb,CZ]
    exact Rat.le_trans (Ia (by omega)) hlow
   constructor
   ·intro h
    have h1:mv m e≤mv k.format.binade last:=Rat.le_trans h hMB
    exact Rat.le_trans ((hcut _).1 h1) (Rat.le_trans hBm h)
   ·intro _
    exact Rat.le_trans hMB ((hcut _).2 hBm)
 have hfin:(last - k.format.leastPlace).toNat * k.format.binade+kept<k.format.infRung:=by
  rcases Nat.lt_or_ge ((last - k.format.leastPlace).toNat * k.format.binade+kept) k.format.infRung with h | h
  ·exact h
  ·exfalso
   have hR:mv kept last<p2 (HF k):=by
    have h1:=(key B0 hB0).1 hv
    grind
   rw[hinf] at h
   generalize hj:(last - k.format.leastPlace).toNat=j at h
   generalize hbb:k.format.binade=b at *
   have hj2:K≤j+2:=by
    rcases Nat.lt_or_ge (j+2) K with h' | h'
    ·have:(j+3) * b≤K * b:=Nat.mul_le_mul_right _ h'
     rw[Nat.add_mul] at this
     omega
    ·exact h'
   have hge:p2 (HF k)≤mv kept last:=by
    rcases Nat.lt_or_ge j (K - 1) with h' | h'
    ·have hj3:K=j+2:=by omega
     subst hj3
     rw[Nat.add_mul] at h
     have:kept=2 ^ (k.format.fractionBits+1):=by rw[Nat.pow_succ,← hb];omega
     rw[this,CZ]
     exact Ia (by omega)
    ·have:mv (2 ^ k.format.fractionBits) last≤mv kept last:=Bo.2 (by rw[← hb];exact hkl (by omega))
     refine Rat.le_trans ?_ this
     rw[CZ]
     exact Ia (by omega)
   grind
 rw[Nat.min_eq_left (Nat.le_of_lt hfin)]
 obtain ⟨m',e',r1,r2,r3,r4⟩:=K6 k s hkb (fun h=>hkl (by omega)) hfin
 refine ⟨m',e',r1,r3,r4,fun B hB => ?_⟩
 rw[r2,show k.format.leastPlace+((last - k.format.leastPlace).toNat:Int)=last by omega]
 exact key B hB
theorem LZ (a b:Nat) (e f:Int):mv (a * b) (e+f)=mv a e * mv b f:=by
 unfold mv;rw[Rat.natCast_mul,IR];grind
def SJ (k:FloatKind) (B:Rat):Prop:=∃ s C,EK k C∧B=sg s C
theorem Bp (v:Rat):sg false v=v:=rfl
theorem D7 (v:Rat):sg true v = -v:=rfl
theorem Il {k:FloatKind} {B:Rat} (h:EK k B):0≤B:=by
 obtain ⟨M,P,-,-,rfl⟩:=h;exact Ak _ _
theorem EK.rep {k:FloatKind} {B:Rat} (h:EK k B):SJ k B:=⟨false,B,h,rfl⟩
theorem EK.neg {k:FloatKind} {B:Rat} (h:EK k B):SJ k (-B):=⟨true,B,h,rfl⟩
def DI (k:FloatKind) (x:Nat) (v:Rat):Prop:=∃ s m e,k.decode x = .number s m e∧v=sg s (mv m e)∧m≤2 * k.format.binade∧k.format.leastPlace≤e
theorem DI.rep {k:FloatKind} {x:Nat} {v:Rat} (h:DI k x v):SJ k v:=by
 obtain ⟨s,m,e,-,rfl,h1,h2⟩:=h
 exact ⟨s,_,⟨m,e,h1,h2,rfl⟩,rfl⟩
theorem DI.inj {k:FloatKind} {x:Nat} {v w:Rat} (h:DI k x v) (h':DI k x w):v=w:=by
 obtain ⟨s,m,e,h1,rfl,-⟩:=h
 obtain ⟨s',m',e',h2,rfl,-⟩:=h'
 rw[h1] at h2;cases h2;rfl
def IK (k:FloatKind) (v R:Rat):Prop:=∀ B,SJ k B→(v≤B→R≤B)∧(B≤v→B≤R)
theorem Ef (k:FloatKind) (s:Bool) (m:Nat) (e:Int) {B0:Rat} (hB0:EK k B0) (hv:mv m e≤B0) (hf:B0<p2 (HF k)) :
  ∃ R,DI k (k.encode (.number s m e)) R∧IK k (sg s (mv m e)) R:=by
 obtain ⟨m',e',r1,r2,r3,r4⟩:=LI k s m e hB0 hv hf
 refine ⟨sg s (mv m' e'),⟨s,m',e',r1,rfl,r2,r3⟩,?_⟩
 rintro B ⟨t,C,hC,rfl⟩
 obtain ⟨c1,c2⟩:=r4 C hC
 have hC0:=Il hC
 have h0:=Ak m e
 have h0' :=Ak m' e'
 have hz:mv m e≤0→mv m' e'≤0:=by
  intro h
  have hz:EK k 0:=⟨0,k.format.leastPlace,Nat.zero_le _,Int.le_refl _,(Bs _).symm⟩
  exact (r4 0 hz).1 h
 cases s <;>cases t <;>simp only[sg] <;>constructor <;>intro h <;>simp only[Bool.false_eq_true,if_false,if_true] at * <;>grind
theorem DI.near_eq {k:FloatKind} {x:Nat} {v R:Rat} (h:DI k x R) (hn:IK k v R) (hv:SJ k v):DI k x v:=by
 have h1:=(hn v hv).1 Rat.le_refl
 have h2:=(hn v hv).2 Rat.le_refl
 have:v=R:=by grind
 rw[this];exact h
theorem DI.num {k:FloatKind} {x:Nat} {v:Rat} (h:DI k x v):isNaN k x=false:=by
 obtain ⟨s,m,e,h1,-⟩:=h
 unfold isNaN;rw[h1];rfl
theorem Bj (s:Bool) (m up:Nat) (b:Int):((Ieee.signed s m up:Int):Rat) * p2 b=sg s (mv m (b+(up:Int))):=by
 rw[← A7]
 unfold Ieee.signed sg mv
 rw[Nat.shiftLeft_eq]
 cases s <;>simp only[Bool.false_eq_true,if_false,if_true]
 ·rw[Rat.intCast_natCast]
 ·rw[Rat.intCast_neg,Rat.intCast_natCast];grind
theorem IM (t:Int) (c:Bool) (b:Int):sg (if t=0 then c else decide (t<0)) (mv t.natAbs b)=(t:Rat) * p2 b:=by
 by_cases h0:t=0
 ·subst h0
  rw[if_pos rfl]
  simp only[Int.natAbs_zero,Bs,sg,Rat.intCast_zero,Rat.zero_mul]
  cases c <;>simp
 ·rw[if_neg h0]
  by_cases h1:t<0
  ·rw[decide_eq_true h1]
   have:(t:Rat) = -((t.natAbs:Nat):Rat):=by rw[← Rat.intCast_natCast,← Rat.intCast_neg];congr 1;omega
   rw[this]
   simp only[sg,if_true,mv];grind
  ·rw[decide_eq_false h1]
   have:(t:Rat)=((t.natAbs:Nat):Rat):=by rw[← Rat.intCast_natCast];congr 1;omega
   rw[this]
   simp only[sg,Bool.false_eq_true,if_false,mv]
theorem TG {a b c:Rat} (h1:a≤b) (h2:b<c):a<c:=by grind
theorem L3 {s:Bool} {c B:Rat} (_:0≤c) (h1:sg s c≤B) (h2 : -B≤sg s c):c≤B:=by
 cases s <;>simp only[sg,Bool.false_eq_true,if_false,if_true] at * <;>grind
theorem Ob {k:FloatKind} {x y:Nat} {a b B:Rat} (hx:DI k x a) (hy:DI k y b) (hB:EK k B) (hf:B<p2 (HF k)) (h1:a+b≤B) (h2 : -B≤a+b) :
  ∃ R,DI k (Ke k x y) R∧IK k (a+b) R:=by
 obtain ⟨s,m,i,e1,rfl,-⟩:=hx
 obtain ⟨t,n,j,e2,rfl,-⟩:=hy
 have e1:k.format.read x = .number s m i:=e1
 have e2:k.format.read y = .number t n j:=e2
 generalize hb:min i j=base
 generalize ht:Ieee.signed s m (i - base).toNat+Ieee.signed t n (j - base).toNat=total
 have hadd:Ke k x y=k.encode (.number (if total=0 then s&&t else total<0) total.natAbs base):=by
  simp only[Ke,Ieee.Format.add,e1,e2,Ieee.Datum.sum,Option.map_some,hb,ht]
  rfl
 have hval:sg (if total=0 then s&&t else decide (total<0)) (mv total.natAbs base)=sg s (mv m i)+sg t (mv n j):=by
  rw[IM,← ht,Rat.intCast_add,Rat.add_mul,Bj,Bj]
  congr 2 <;>congr 1 <;>omega
 rw[hadd,← hval]
 exact Ef k _ _ _ hB (L3 (Ak _ _) (by rw[hval];exact h1) (by rw[hval];exact h2)) hf
theorem Og {k:FloatKind} {x y:Nat} {a b B:Rat} (hx:DI k x a) (hy:DI k y b) (hB:EK k B) (hf:B<p2 (HF k)) (h1:a * b≤B) (h2 : -B≤a * b) :
  ∃ R,DI k (Lv k x y) R∧IK k (a * b) R:=by
 obtain ⟨s,m,i,e1,rfl,-⟩:=hx
 obtain ⟨t,n,j,e2,rfl,-⟩:=hy
 have e1:k.format.read x = .number s m i:=e1
 have e2:k.format.read y = .number t n j:=e2
 have hmul:Lv k x y=k.encode (.number (s ^^ t) (m * n) (i+j)):=by
  simp only[Lv,Ieee.Format.mul,e1,e2,Ieee.Datum.product,Option.map_some]
  rfl
 have hval:sg (s ^^ t) (mv (m * n) (i+j))=sg s (mv m i) * sg t (mv n j):=by
  rw[LZ]
  cases s <;>cases t <;>simp[sg] <;>grind
 rw[hmul,← hval]
 exact Ef k _ _ _ hB (L3 (Ak _ _) (by rw[hval];exact h1) (by rw[hval];exact h2)) hf
theorem Eb {k:FloatKind} {x y:Nat} {a b:Rat} (hx:DI k x a) (hy:DI k y b):(k.format.order x y=some .lt↔a<b)∧(k.format.order x y=some .eq↔a=b)∧(k.format.order x y=some .gt↔b<a):=by
 obtain ⟨s,m,i,e1,rfl,-⟩:=hx
 obtain ⟨t,n,j,e2,rfl,-⟩:=hy
 have e1:k.format.read x = .number s m i:=e1
 have e2:k.format.read y = .number t n j:=e2
 generalize hb:min i j=base
 have ha:sg s (mv m i)=((Ieee.signed s m (i - base).toNat:Int):Rat) * p2 base:=by rw[Bj];congr 2;omega
 have hc:sg t (mv n j)=((Ieee.signed t n (j - base).toNat:Int):Rat) * p2 base:=by rw[Bj];congr 2;omega
 rw[ha,hc]
 have ho:k.format.order x y=some (compare (Ieee.signed s m (i - base).toNat) (Ieee.signed t n (j - base).toNat)):=by
  simp only[Ieee.Format.order,e1,e2,Ieee.Datum.order,hb]
 rw[ho]
 generalize Ieee.signed s m (i - base).toNat=u
 generalize Ieee.signed t n (j - base).toNat=v
 have hlt:∀ p q:Int,(p:Rat) * p2 base<(q:Rat) * p2 base↔p<q:=fun p q=>by rw[Rat.mul_lt_mul_right (Gv _),Rat.intCast_lt_intCast]
 have heq:((u:Rat) * p2 base=(v:Rat) * p2 base)↔u=v:=by
  constructor
  ·intro h
   rcases Int.lt_trichotomy u v with h1 | h1 | h1
   ·have:=(hlt u v).2 h1;grind
   ·exact h1
   ·have:=(hlt v u).2 h1;grind
  ·rintro rfl;rfl
 rw[hlt,hlt,heq]
 have hc:(u<v∧compare u v = .lt)∨(u=v∧compare u v = .eq)∨(v<u∧compare u v = .gt):=by
  rcases Int.lt_trichotomy u v with h1 | h1 | h1
  ·exact .inl ⟨h1,by simp[compare,compareOfLessAndEq,h1]⟩
  ·subst h1;exact .inr (.inl ⟨rfl,by simp[compare,compareOfLessAndEq]⟩)
  ·exact .inr (.inr ⟨h1,by simp only[compare,compareOfLessAndEq];rw[if_neg (by omega),if_neg (by omega)]⟩)
 rcases hc with ⟨h,e⟩ | ⟨h,e⟩ | ⟨h,e⟩ <;>rw[e] <;>simp <;>omega
theorem Qp {k:FloatKind} {x y:Nat} {a b:Rat} (hx:DI k x a) (hy:DI k y b):Sn k x y=true↔a≤b:=by
 have h1:=(Eb hx hy).1
 have h2:=(Eb hx hy).2.1
 simp only[Sn,Bool.or_eq_true,beq_iff_eq,h1,h2]
 grind
theorem Q4 {k:FloatKind} {x y:Nat} {a b:Rat} (hx:DI k x a) (hy:DI k y b):SW k x y=true↔b≤a:=by
 have h1:=(Eb hx hy).2.2
 have h2:=(Eb hx hy).2.1
 simp only[SW,Bool.or_eq_true,beq_iff_eq,h1,h2]
 grind
theorem Pn (s:Bool) (n d:Nat):Ieee.Toward.cut .zero s n d=n / 2 ^ d:=by
 unfold Ieee.Toward.cut
 simp only[Nat.shiftLeft_eq,Nat.one_mul,Bool.toNat_false,Nat.add_zero]
 rcases Nat.lt_or_ge (n.log2+2) d with hd | hd
 ·rw[Nat.min_eq_right (Nat.le_of_lt hd)]
  have h1:n<2 ^ (n.log2+1):=Nat.lt_log2_self
  have h2:2 ^ (n.log2+1)≤2 ^ (n.log2+2):=Nat.pow_le_pow_right (by decide) (by omega)
  have h3:2 ^ (n.log2+1)≤2 ^ d:=Nat.pow_le_pow_right (by decide) (by omega)
  rw[Nat.div_eq_of_lt (by omega),Nat.div_eq_of_lt (by omega)]
 ·rw[Nat.min_eq_left hd]
theorem DW {k:FloatKind} {n:Int} (hn:n.natAbs≤2 * k.format.binade):DI k (k.nearest n) (n:Rat):=by
 have hm:EK k (mv n.natAbs 0):=⟨n.natAbs,0,hn,by cases k <;>decide,rfl⟩
 have hval:sg (decide (n<0)) (mv n.natAbs 0)=(n:Rat):=by
  have:=IM n (decide (n<0)) 0
  rw[E8,Rat.mul_one] at this
  rw[← this]
  congr 1
  by_cases h:n=0
  ·rw[if_pos h]
  ·rw[if_neg h]
 have hlt:mv n.natAbs 0<p2 (HF k):=by
  have h1:mv n.natAbs 0≤mv (2 * k.format.binade) 0:=Bo.2 hn
  cases k
  ·exact TG h1 (by rw[show 2 * FloatKind.f32.format.binade=2 ^ 24 by decide,CZ];exact Pe (by decide))
  ·exact TG h1 (by rw[show 2 * FloatKind.f64.format.binade=2 ^ 53 by decide,CZ];exact Pe (by decide))
 obtain ⟨R,h1,h2⟩:=Ef k (decide (n<0)) n.natAbs 0 hm Rat.le_refl hlt
 have h3:DI k (k.nearest n) R:=h1
 rw[hval] at h2
 refine h3.near_eq h2 ⟨decide (n<0),_,hm,hval.symm⟩
theorem Qr {k:FloatKind} {Q v:Rat} (hQ:0≤Q) (hv:0≤v) (h:∀ C,EK k C→(Q≤C→v≤C)∧(C≤Q→C≤v)) (s:Bool):IK k (sg s Q) (sg s v):=by
 rintro B ⟨t,C,hC,rfl⟩
 obtain ⟨c1,c2⟩:=h C hC
 have hC0:=Il hC
 have hz:Q≤0→v≤0:=(h 0 ⟨0,k.format.leastPlace,Nat.zero_le _,Int.le_refl _,(Bs _).symm⟩).1
 cases s <;>cases t <;>simp only[sg] <;>constructor <;>intro h <;>simp only[Bool.false_eq_true,if_false,if_true] at * <;>grind
theorem IK.trans {k:FloatKind} {a b c:Rat} (h:IK k a b) (h':IK k b c):IK k a c:=fun B hB=>⟨fun h1=>(h' B hB).1 ((h B hB).1 h1),fun h1=>(h' B hB).2 ((h B hB).2 h1)⟩
theorem OI (k:FloatKind) {m n:Nat} {i j:Int} (hn:n≠0) {more q:Nat} {st:Bool} (hmore:k.format.fractionBits+2+n.log2≤more+m.log2) (hq:(m <<< more) / n=q) (hst:((m <<< more) % n != 0)=st) {C:Rat} (hC:EK k C) :
  (mv m i≤C * mv n j→mv (2 * q+st.toNat) (i - j - more - 1)≤C)∧(C * mv n j≤mv m i→C≤mv (2 * q+st.toNat) (i - j - more - 1)):=by
 obtain ⟨-,-,-,-,-,hb⟩:=Sh k
 obtain ⟨M,P,hM,hP,rfl⟩:=hC
 generalize hu:i - j - (more:Int)=u
 rw[Nat.shiftLeft_eq] at hq hst
 generalize hdv:m * 2 ^ more=dv at hq hst
 have hmv:mv m i=mv dv (u+j):=by rw[← hdv,A7];congr 1;omega
 have hdm:=Nat.div_add_mod dv n
 rw[hq] at hdm
 have hml:=Nat.mod_lt dv (Nat.pos_of_ne_zero hn)
 have hstr:(st=true→0<dv % n)∧(st=false→dv % n=0):=by
  rw[← hst]
  constructor <;>intro h <;>simp at h <;>omega
 have hst1:=Bool.toNat_le st
 have h2:∀ c,mv c u=mv (2 * c) (u - 1):=fun c=>by rw[show 2 * c=c * 2 ^ 1 by omega,A7];congr 1;omega
 by_cases hPu:u≤P
 ·have hC:mv M P=mv (M * 2 ^ (P - u).toNat) u:=by rw[A7];congr 1;omega
  rw[hC]
  generalize M * 2 ^ (P - u).toNat=M'
  rw[hmv,← LZ,Bo,Bo,h2 M',Bo,Bo]
  constructor
  ·intro h
   have h3:n * q≤n * M' :=by rw[Nat.mul_comm n M'];omega
   have h4:=Nat.le_of_mul_le_mul_left h3 (Nat.pos_of_ne_zero hn)
   cases st
   ·simp only[Bool.toNat_false];omega
   ·have h5:n * q<n * M' :=by rw[Nat.mul_comm n M'];have:=hstr.1 rfl;omega
    have h6:=Nat.lt_of_mul_lt_mul_left h5
    simp only[Bool.toNat_true];omega
  ·intro h
   have:M'≤q:=by
    rw[← hq];exact (Nat.le_div_iff_mul_le (Nat.pos_of_ne_zero hn)).2 h
   omega
 ·by_cases hm:m=0
  ·subst hm
   have hd0:dv=0:=by rw[← hdv,Nat.zero_mul]
   subst hd0
   have hq0:q=0:=by rw[← hq,Nat.zero_div]
   subst hq0
   have:st=false:=by rw[← hst];simp
   subst this
   simp only[Bool.toNat_false,Nat.mul_zero,Nat.add_zero,Bs]
   refine ⟨fun _=>Ak _ _,fun h => ?_⟩
   rcases Nat.eq_zero_or_pos M with h0 | h0
   ·subst h0;rw[Bs];exact Rat.le_refl
   ·exfalso
    rw[← LZ] at h
    have h5:mv 0 (P+j)<mv (M * n) (P+j):=K3.2 (Nat.mul_pos h0 (Nat.pos_of_ne_zero hn))
    rw[Bs] at h5
    grind
  ·have hdl:2 ^ (k.format.fractionBits+2+n.log2)≤dv:=by
    have h3:2 ^ (m.log2+more)≤dv:=by
     rw[Nat.pow_add,← hdv]
     exact Nat.mul_le_mul_right _ (Nat.log2_self_le hm)
    exact Nat.le_trans (Nat.pow_le_pow_right (by decide) (by omega)) h3
   have hql:2 ^ (k.format.fractionBits+1)≤q:=by
    rw[← hq,Nat.le_div_iff_mul_le (Nat.pos_of_ne_zero hn)]
    have h4:n<2 ^ (n.log2+1):=Nat.lt_log2_self
    have h5:2 ^ (k.format.fractionBits+1) * n≤2 ^ (k.format.fractionBits+1) * 2 ^ (n.log2+1):=Nat.mul_le_mul_left _ (Nat.le_of_lt h4)
    rw[← Nat.pow_add,show k.format.fractionBits+1+(n.log2+1)=k.format.fractionBits+2+n.log2 by omega] at h5
    omega
   have hCu:mv M P≤mv (2 ^ k.format.fractionBits) u:=by
    refine Rat.le_trans (Bo.2 hM) ?_
    rw[hb,show 2 * 2 ^ k.format.fractionBits=2 ^ (k.format.fractionBits+1) by rw[Nat.pow_succ];omega,CZ,CZ]
    exact Ia (by omega)
   have hpw:2 ^ k.format.fractionBits<2 ^ (k.format.fractionBits+1):=by rw[Nat.pow_succ];have:=Nat.two_pow_pos k.format.fractionBits;omega
   have hle:mv M P≤mv (2 * q+st.toNat) (u - 1):=by
    refine Rat.le_trans hCu ?_
    rw[h2,Bo];omega
   refine ⟨fun h => ?_,fun _=>hle⟩
   exfalso
   have h6:mv M P * mv n j≤mv (2 ^ k.format.fractionBits) u * mv n j:=Rat.mul_le_mul_of_nonneg_right hCu (Ak _ _)
   have h7:=Rat.le_trans h h6
   rw[hmv,← LZ,Bo] at h7
   have h8:2 ^ (k.format.fractionBits+1) * n≤q * n:=Nat.mul_le_mul_right _ hql
   have h9:2 ^ k.format.fractionBits * n<2 ^ (k.format.fractionBits+1) * n:=Nat.mul_lt_mul_of_pos_right hpw (Nat.pos_of_ne_zero hn)
   rw[Nat.mul_comm q n] at h8
   omega
theorem RH {k:FloatKind} {x y:Nat} {a b B:Rat} (hx:DI k x a) (hy:DI k y b) (hb:b≠0) (hB:EK k B) (hf:B<p2 (HF k)) (h1:a / b≤B) (h2 : -B≤a / b) :
  ∃ R,DI k (fdiv k x y) R∧IK k (a / b) R:=by
 obtain ⟨s,m,i,e1,rfl,-⟩:=hx
 obtain ⟨t,n,j,e2,rfl,-⟩:=hy
 have e1:k.format.read x = .number s m i:=e1
 have e2:k.format.read y = .number t n j:=e2
 have hn:n≠0:=by
  rintro rfl
  apply hb
  rw[Bs];cases t <;>simp[sg]
 generalize hmo:k.format.fractionBits+2+n.log2 - m.log2=more
 generalize hq:(m <<< more) / n=q
 generalize hst:((m <<< more) % n != 0)=st
 have hdiv:fdiv k x y=k.encode (.number (s ^^ t) (2 * q+st.toNat) (i - j - more - 1)):=by
  simp only[fdiv,Ieee.Format.div,e1,e2,Ieee.Datum.quotient,if_neg hn,hmo,hq,hst,Option.map_some]
  rfl
 have hnp:0<mv n j:=by have:=(K3 (e:=j)).2 (Nat.pos_of_ne_zero hn);rwa [Bs] at this
 have hval:sg s (mv m i) / sg t (mv n j)=sg (s ^^ t) (mv m i / mv n j):=by
  cases s <;>cases t <;>simp[sg] <;>grind
 have hcan:mv m i / mv n j * mv n j=mv m i:=by rw[Rat.div_mul_cancel];grind
 have hQ:0≤mv m i / mv n j:=by
  have h3:=Ak m i
  rcases Rat.le_total (a:=0) (b:=mv m i / mv n j) with h | h
  ·exact h
  ·have h4:mv m i / mv n j * mv n j≤0 * mv n j:=Rat.mul_le_mul_of_nonneg_right h (Rat.le_of_lt hnp)
   rw[hcan,Rat.zero_mul] at h4
   have h5:mv m i=0:=by grind
   rw[h5,Rat.div_def,Rat.zero_mul];exact Rat.le_refl
 have hside:∀ C,EK k C→(mv m i / mv n j≤C→mv (2 * q+st.toNat) (i - j - more - 1)≤C)∧(C≤mv m i / mv n j→C≤mv (2 * q+st.toNat) (i - j - more - 1)):=by
  intro C hC
  obtain ⟨c1,c2⟩:=OI k (i:=i) (j:=j) hn (by omega) hq hst hC
  constructor
  ·intro h
   have:=Rat.mul_le_mul_of_nonneg_right h (Rat.le_of_lt hnp)
   rw[hcan] at this
   exact c1 this
  ·intro h
   have:=Rat.mul_le_mul_of_nonneg_right h (Rat.le_of_lt hnp)
   rw[hcan] at this
   exact c2 this
 rw[hval] at h1 h2 ⊢
 have hQB:=L3 hQ h1 h2
 obtain ⟨R,r1,r2⟩:=Ef k (s ^^ t) (2 * q+st.toNat) (i - j - more - 1) hB ((hside B hB).1 hQB) hf
 rw[hdiv]
 exact ⟨R,r1,(Qr hQ (Ak _ _) hside _).trans r2⟩
theorem Dg {k:FloatKind} {x:Nat} {s:Bool} {m:Nat} {e:Int} (h:k.decode x = .number s m e):DI k x (sg s (mv m e)):=by
 refine ⟨s,m,e,h,rfl,?_⟩
 obtain ⟨K,-,-,-,-,hb⟩:=Sh k
 have hbp:0<k.format.binade:=by rw[hb];exact Nat.two_pow_pos _
 have h:k.format.read x = .number s m e:=h
 unfold Ieee.Format.read at h
 by_cases c1:x % k.format.signWeight<k.format.binade
 ·simp only[if_pos c1] at h
  cases h
  exact ⟨by omega,Int.le_refl _⟩
 ·by_cases c2:x % k.format.signWeight<k.format.infRung
  ·simp only[if_neg c1,if_pos c2] at h
   cases h
   have:=Nat.mod_lt (x % k.format.signWeight) hbp
   exact ⟨by omega,by omega⟩
  ·by_cases c3:x % k.format.signWeight=k.format.infRung
   ·simp only[if_neg c1,if_neg c2,if_pos c3] at h;cases h
   ·simp only[if_neg c1,if_neg c2,if_neg c3] at h;cases h
theorem CR {k:FloatKind} {x:Nat} {s:Bool} {m:Nat} {e:Int} (h:k.decode x = .number s m e) :
  m<2 * k.format.binade∧k.format.leastPlace≤e∧(k.format.leastPlace<e→k.format.binade≤m)∧x % k.format.signWeight=(e - k.format.leastPlace).toNat * k.format.binade+m∧(x / k.format.signWeight % 2==1)=s:=by
 obtain ⟨K,-,-,-,-,hb⟩:=Sh k
 have hbp:0<k.format.binade:=by rw[hb];exact Nat.two_pow_pos _
 have h:k.format.read x = .number s m e:=h
 unfold Ieee.Format.read at h
 by_cases c1:x % k.format.signWeight<k.format.binade
 ·simp only[if_pos c1] at h
  cases h
  refine ⟨by omega,Int.le_refl _,fun h=>by omega,?_,rfl⟩
  rw[Int.sub_self];simp
 ·by_cases c2:x % k.format.signWeight<k.format.infRung
  ·simp only[if_neg c1,if_pos c2] at h
   cases h
   generalize x % k.format.signWeight=r at *
   generalize hbb:k.format.binade=b at *
   have h1:=Nat.mod_lt r hbp
   have h2:=Nat.div_add_mod r b
   have h3:1≤r / b:=(Nat.le_div_iff_mul_le hbp).2 (by omega)
   refine ⟨by omega,by omega,fun _=>by omega,?_,rfl⟩
   have h4:(k.format.leastPlace+((r / b - 1:Nat):Int) - k.format.leastPlace).toNat=r / b - 1:=by omega
   rw[h4]
   generalize r / b=q at *
   obtain ⟨q,rfl⟩:∃ p,q=p+1:=⟨q - 1,by omega⟩
   rw[Nat.mul_add] at h2
   rw[Nat.add_sub_cancel,Nat.mul_comm q b]
   omega
  ·by_cases c3:x % k.format.signWeight=k.format.infRung
   ·simp only[if_neg c1,if_neg c2,if_pos c3] at h;cases h
   ·simp only[if_neg c1,if_neg c2,if_neg c3] at h;cases h
theorem RE {k:FloatKind} {m m':Nat} {e e':Int} (h1:m<2 * k.format.binade) (h1':m'<2 * k.format.binade) (h2:k.format.leastPlace≤e) (h2':k.format.leastPlace≤e') (h3:k.format.leastPlace<e→k.format.binade≤m) (h3':k.format.leastPlace<e'→k.format.binade≤m') (h:mv m e=mv m' e'):m=m'∧e=e' :=by
 have key:∀ {m m':Nat} {e e':Int},m<2 * k.format.binade→k.format.leastPlace≤e→(k.format.leastPlace<e'→k.format.binade≤m')→mv m e=mv m' e'→¬ e<e' :=by
  intro m m' e e' a1 a2 a3 a4 a5
  have e1:mv m' e'=mv (m' * 2 ^ (e' - e).toNat) e:=by rw[A7];congr 1;omega
  rw[e1] at a4
  have h5:=Bo.1 (show mv (m' * 2 ^ (e' - e).toNat) e≤mv m e by rw[a4];exact Rat.le_refl)
  have h6:=a3 (by omega)
  have h7:2 ^ 1≤2 ^ (e' - e).toNat:=Nat.pow_le_pow_right (by decide) (by omega)
  have h8:k.format.binade * 2≤m' * 2 ^ (e' - e).toNat:=Nat.mul_le_mul h6 h7
  omega
 have h4:=key h1 h2 h3' h
 have h5:=key h1' h2' h3 h.symm
 have he:e=e' :=by omega
 subst he
 refine ⟨?_,rfl⟩
 have h6:=Bo.1 (show mv m e≤mv m' e by rw[h];exact Rat.le_refl)
 have h7:=Bo.1 (show mv m' e≤mv m e by rw[h];exact Rat.le_refl)
 omega
theorem QI {k:FloatKind} {x y:Nat} {s:Bool} {m m':Nat} {e e':Int} (hx:x<2 * k.format.signWeight) (hy:y<2 * k.format.signWeight) (h:k.decode x = .number s m e) (h':k.decode y = .number s m' e') (hv:mv m e=mv m' e'):x=y:=by
 obtain ⟨a1,a2,a3,a4,a5⟩:=CR h
 obtain ⟨b1,b2,b3,b4,b5⟩:=CR h'
 obtain ⟨rfl,rfl⟩:=RE a1 b1 a2 b2 a3 b3 hv
 have hp:0<k.format.signWeight:=by omega
 have h1:x % k.format.signWeight=y % k.format.signWeight:=by rw[a4,b4]
 have q1:x / k.format.signWeight<2:=(Nat.div_lt_iff_lt_mul hp).2 hx
 have q2:y / k.format.signWeight<2:=(Nat.div_lt_iff_lt_mul hp).2 hy
 rw[Nat.mod_eq_of_lt q1] at a5
 rw[Nat.mod_eq_of_lt q2] at b5
 have h2:x / k.format.signWeight=y / k.format.signWeight:=by
  have:(x / k.format.signWeight==1)=(y / k.format.signWeight==1):=by rw[a5,b5]
  generalize x / k.format.signWeight=p at *
  generalize y / k.format.signWeight=q at *
  rcases Nat.lt_or_ge p 1 with c1 | c1 <;>rcases Nat.lt_or_ge q 1 with c2 | c2
  ·omega
  ·obtain rfl:p=0:=by omega
   obtain rfl:q=1:=by omega
   cases this
  ·obtain rfl:p=1:=by omega
   obtain rfl:q=0:=by omega
   cases this
  ·omega
 rw[← Nat.div_add_mod x k.format.signWeight,← Nat.div_add_mod y k.format.signWeight,h1,h2]
theorem L8 (f:Ieee.Format) (s:Bool) (m:Nat) (e:Int):f.nearest s m e=f.word s (f.nearest false m e):=by
 unfold Ieee.Format.nearest
 by_cases hm:m=0
 ·rw[if_pos hm,if_pos hm];rfl
 ·rw[if_neg hm,if_neg hm];rfl
theorem JE (k:FloatKind) (m:Nat) (e:Int):k.format.nearest false m e≤k.format.infRung:=by
 unfold Ieee.Format.nearest
 by_cases hm:m=0
 ·rw[if_pos hm];exact Nat.zero_le _
 ·rw[if_neg hm];exact Nat.min_le_right _ _
theorem OK (k:FloatKind) (s:Bool) {r:Nat} (h:r≤k.format.infRung):k.format.word s r<2 * k.format.signWeight:=by
 have:=En k
 unfold Ieee.Format.word
 split <;>omega
theorem Mj (k:FloatKind) (s:Bool) {m:Nat} {e:Int} (h:EK k (mv m e)) (hf:mv m e<p2 (HF k)):∃ m' e',k.decode (k.encode (.number s m e)) = .number s m' e'∧mv m' e'=mv m e:=by
 obtain ⟨m',e',r1,-,-,r4⟩:=LI k s m e h Rat.le_refl hf
 obtain ⟨c1,c2⟩:=r4 _ h
 have h1:=c1 Rat.le_refl
 have h2:=c2 Rat.le_refl
 exact ⟨m',e',r1,by grind⟩
def Ep (x:Nat):Nat:=if isNaN .f32 x then E6 .f32 else x % 2147483648
theorem NN {x:Nat}:(∀ s m e,FloatKind.f32.decode x = .number s m e→FloatKind.f32.decode (x % 2147483648) = .number false m e)∧(∀ s,FloatKind.f32.decode x = .infinity s→FloatKind.f32.decode (x % 2147483648) = .infinity false):=by
 have hw:FloatKind.f32.format.signWeight=2147483648:=rfl
 have hr:x % 2147483648 % FloatKind.f32.format.signWeight=x % FloatKind.f32.format.signWeight:=by rw[hw,Nat.mod_mod]
 have hs:(x % 2147483648 / FloatKind.f32.format.signWeight % 2==1)=false:=by
  rw[hw,Nat.div_eq_of_lt (Nat.mod_lt _ (by decide))];rfl
 constructor
 ·intro s m e h
  have h:FloatKind.f32.format.read x = .number s m e:=h
  show FloatKind.f32.format.read (x % 2147483648)=_
  unfold Ieee.Format.read at h ⊢
  simp only[hr,hs]
  by_cases c1:x % FloatKind.f32.format.signWeight<FloatKind.f32.format.binade
  ·simp only[if_pos c1] at h ⊢;cases h;rfl
  ·by_cases c2:x % FloatKind.f32.format.signWeight<FloatKind.f32.format.infRung
   ·simp only[if_neg c1,if_pos c2] at h ⊢;cases h;rfl
   ·by_cases c3:x % FloatKind.f32.format.signWeight=FloatKind.f32.format.infRung
    ·simp only[if_neg c1,if_neg c2,if_pos c3] at h;cases h
    ·simp only[if_neg c1,if_neg c2,if_neg c3] at h;cases h
 ·intro s h
  have h:FloatKind.f32.format.read x = .infinity s:=h
  show FloatKind.f32.format.read (x % 2147483648)=_
  unfold Ieee.Format.read at h ⊢
  simp only[hr,hs]
  by_cases c1:x % FloatKind.f32.format.signWeight<FloatKind.f32.format.binade
  ·simp only[if_pos c1] at h;cases h
  ·by_cases c2:x % FloatKind.f32.format.signWeight<FloatKind.f32.format.infRung
   ·simp only[if_neg c1,if_pos c2] at h;cases h
   ·by_cases c3:x % FloatKind.f32.format.signWeight=FloatKind.f32.format.infRung
    ·simp only[if_neg c1,if_neg c2,if_pos c3]
    ·simp only[if_neg c1,if_neg c2,if_neg c3] at h;cases h
theorem P6 (k:FloatKind):DI k 0 0:=by
 have h:k.decode 0 = .number false 0 k.format.leastPlace:=by cases k <;>decide
 have:=Dg h
 rwa [Bp,Bs] at this
theorem OY.lt32 {x:Nat} (h:OY .f32 x):x<4294967296:=by
 have:=h.2
 simpa [Lit.wf] using this
section
variable {p zs:List Nat} {z:Nat} {k:FloatKind}
end
section
variable {p zs:List Int} {z:Int} {k:IntKind}
end
section
variable {α:Type} {p zs:List α} {z:α}
end
def SK (x:Nat):Prop:=x<4294967296∧Af .f32 x=x
theorem OY.w32 {x:Nat} (h:OY .f32 x):SK x:=⟨h.lt32,h.1⟩
theorem QD:SK (E6 .f32):=⟨by decide,by decide⟩
theorem Hb (k:FloatKind) {d:Ieee.Datum} (h:∀ s t,d ≠ .nan s t):k.format.write d<2 * k.format.signWeight:=by
 cases d with
 | nan s t=>exact absurd rfl (h s t)
 | infinity s=>exact OK k s (Nat.le_refl _)
 | number s m e =>
   show k.format.nearest s m e<_
   rw[L8]
   exact OK k s (JE k m e)
theorem Ot {d:Ieee.Datum} (h:∀ s t,d ≠ .nan s t):SK (FloatKind.f32.format.write d):=⟨Hb .f32 h,Bb (ES h)⟩
theorem QL (x y:Nat):SK (fdiv .f32 x y):=by
 unfold fdiv Ieee.Format.div
 cases h:(FloatKind.f32.format.read x).quotient (FloatKind.f32.format.fractionBits+2) (FloatKind.f32.format.read y) with
 | none=>exact QD
 | some d=>exact Ot (fun s t e=>EV h s t e)
def Ij (x:Nat):Prop:=∃ m:Int,(-64≤m∧m≤64)∧(x=fdiv .f32 (FloatKind.f32.nearest m) 1088421888∨x=fdiv .f32 (FloatKind.f32.nearest m) 1098907648)
theorem Ij.w32 {x:Nat} (h:Ij x):SK x:=by
 obtain ⟨m,-,rfl | rfl⟩:=h <;>exact QL _ _
section
variable {σ α β:Type}
end
def C5 (k:FloatKind) (x:Nat):Nat:=x % k.format.signWeight
def Od (k:FloatKind) (x:Nat):Bool:=x / k.format.signWeight % 2==1
def key (k:FloatKind) (x:Nat):Int:=if Od k x then -(C5 k x:Int) else (C5 k x:Int)
theorem Gq (k:FloatKind):0<k.format.binade:=by cases k <;>decide
theorem MX {k:FloatKind} {x:Nat} {s:Bool} (h:k.decode x = .infinity s):C5 k x=k.format.infRung∧Od k x=s:=by
 have h:k.format.read x = .infinity s:=h
 unfold Ieee.Format.read at h
 by_cases c1:x % k.format.signWeight<k.format.binade
 ·simp only[if_pos c1] at h;cases h
 ·by_cases c2:x % k.format.signWeight<k.format.infRung
  ·simp only[if_neg c1,if_pos c2] at h;cases h
  ·by_cases c3:x % k.format.signWeight=k.format.infRung
   ·simp only[if_neg c1,if_neg c2,if_pos c3] at h;cases h;exact ⟨c3,rfl⟩
   ·simp only[if_neg c1,if_neg c2,if_neg c3] at h;cases h
theorem Eh {k:FloatKind} {x:Nat} {s:Bool} {m:Nat} {e:Int} (h:k.decode x = .number s m e):C5 k x<k.format.infRung∧Od k x=s:=by
 refine ⟨?_,(CR h).2.2.2.2⟩
 have h:k.format.read x = .number s m e:=h
 unfold Ieee.Format.read at h
 have hb:k.format.binade<k.format.infRung:=by cases k <;>decide
 by_cases c1:x % k.format.signWeight<k.format.binade
 ·unfold C5;omega
 ·by_cases c2:x % k.format.signWeight<k.format.infRung
  ·exact c2
  ·by_cases c3:x % k.format.signWeight=k.format.infRung
   ·simp only[if_neg c1,if_neg c2,if_pos c3] at h;cases h
   ·simp only[if_neg c1,if_neg c2,if_neg c3] at h;cases h
theorem QN {k:FloatKind} {x y:Nat} {s t:Bool} {m n:Nat} {i j:Int} (h:k.decode x = .number s m i) (h':k.decode y = .number t n j) (hl:C5 k x<C5 k y):mv m i<mv n j:=by
 obtain ⟨a1,a2,a3,a4,-⟩:=CR h
 obtain ⟨b1,b2,b3,b4,-⟩:=CR h'
 unfold C5 at hl
 rw[a4,b4] at hl
 have hB:=Gq k
 generalize k.format.binade=B at *
 generalize k.format.leastPlace=L at *
 rcases Int.lt_trichotomy i j with hij | rfl | hij
 ·have e1:mv n j=mv (n * 2 ^ (j - i).toNat) i:=by rw[A7];congr 1;omega
  rw[e1,K3]
  have h6:=b3 (by omega)
  have h7:2 ^ 1≤2 ^ (j - i).toNat:=Nat.pow_le_pow_right (by decide) (by omega)
  have h8:B * 2≤n * 2 ^ (j - i).toNat:=Nat.mul_le_mul h6 h7
  omega
 ·rw[K3];omega
 ·exfalso
  have h6:=a3 (by omega)
  have:(i - L).toNat=(j - L).toNat+(i - j).toNat:=by omega
  rw[this,Nat.add_mul] at hl
  have:B≤(i - j).toNat * B:=Nat.le_mul_of_pos_left B (by omega)
  omega
theorem QZ {k:FloatKind} {x y:Nat} {s t:Bool} {m n:Nat} {i j:Int} (h:k.decode x = .number s m i) (h':k.decode y = .number t n j) (hl:C5 k x=C5 k y):mv m i=mv n j:=by
 obtain ⟨a1,a2,a3,a4,-⟩:=CR h
 obtain ⟨b1,b2,b3,b4,-⟩:=CR h'
 unfold C5 at hl
 rw[a4,b4] at hl
 have hB:=Gq k
 generalize k.format.binade=B at *
 generalize k.format.leastPlace=L at *
 have:i=j:=by
  rcases Int.lt_trichotomy i j with hij | e | hij
  ·exfalso
   have h6:=b3 (by omega)
   have:(j - L).toNat=(i - L).toNat+(j - i).toNat:=by omega
   rw[this,Nat.add_mul] at hl
   have:B≤(j - i).toNat * B:=Nat.le_mul_of_pos_left B (by omega)
   omega
  ·exact e
  ·exfalso
   have h6:=a3 (by omega)
   have:(i - L).toNat=(j - L).toNat+(i - j).toNat:=by omega
   rw[this,Nat.add_mul] at hl
   have:B≤(i - j).toNat * B:=Nat.le_mul_of_pos_left B (by omega)
   omega
 subst this
 have:m=n:=by omega
 rw[this]
theorem HM {k:FloatKind} {x:Nat} {s:Bool} {m:Nat} {i:Int} (h:k.decode x = .number s m i):(C5 k x=0↔mv m i=0):=by
 obtain ⟨a1,a2,a3,a4,-⟩:=CR h
 have hB:=Gq k
 unfold C5
 rw[a4]
 constructor
 ·intro h0
  have:m=0:=by omega
  rw[this,Bs]
 ·intro h0
  have hm:m=0:=by
   rcases Nat.eq_zero_or_pos m with e | e
   ·exact e
   ·have h1:mv 0 i<mv m i:=K3.2 e
    rw[Bs,h0] at h1
    exact absurd h1 (by decide)
  subst hm
  have:¬ k.format.leastPlace<i:=fun h1=>by have:=a3 h1;omega
  have:(i - k.format.leastPlace).toNat=0:=by omega
  rw[this];simp
theorem CM (a b:Int):(a<b∧compare a b = .lt)∨(a=b∧compare a b = .eq)∨(b<a∧compare a b = .gt):=by
 rcases Int.lt_trichotomy a b with h1 | h1 | h1
 ·exact .inl ⟨h1,by simp[compare,compareOfLessAndEq,h1]⟩
 ·subst h1;exact .inr (.inl ⟨rfl,by simp[compare,compareOfLessAndEq]⟩)
 ·exact .inr (.inr ⟨h1,by simp only[compare,compareOfLessAndEq];rw[if_neg (by omega),if_neg (by omega)]⟩)
theorem Jh {k:FloatKind} {x y:Nat} {s t:Bool} {m n:Nat} {i j:Int} (h:k.decode x = .number s m i) (h':k.decode y = .number t n j) (hl:key k x<key k y):sg s (mv m i)<sg t (mv n j):=by
 have hs:=(Eh h).2
 have ht:=(Eh h').2
 unfold key at hl
 rw[hs,ht] at hl
 have z1:=HM h
 have z2:=HM h'
 have p1:=Ak m i
 have p2:=Ak n j
 cases s <;>cases t <;>simp only[Bool.false_eq_true,if_false,if_true,sg] at hl ⊢
 ·exact QN h h' (by omega)
 ·omega
 ·rcases Nat.eq_zero_or_pos (C5 k y) with e | e
  ·have:0<C5 k x:=by omega
   have:mv m i≠0:=fun h0=>by rw[z1.2 h0] at this;omega
   have h0:=z2.1 e
   rw[h0];grind
  ·have:mv n j≠0:=fun h0=>by rw[z2.2 h0] at e;omega
   grind
 ·have:=QN h' h (by omega)
  grind
theorem Nt {k:FloatKind} {x y:Nat} {s t:Bool} {m n:Nat} {i j:Int} (h:k.decode x = .number s m i) (h':k.decode y = .number t n j) (hl:key k x=key k y):sg s (mv m i)=sg t (mv n j):=by
 have hs:=(Eh h).2
 have ht:=(Eh h').2
 unfold key at hl
 rw[hs,ht] at hl
 have z1:=HM h
 have z2:=HM h'
 cases s <;>cases t <;>simp only[Bool.false_eq_true,if_false,if_true,sg] at hl ⊢
 ·exact QZ h h' (by omega)
 ·rw[z1.1 (by omega),z2.1 (by omega)];rfl
 ·rw[z1.1 (by omega),z2.1 (by omega)];rfl
 ·rw[QZ h h' (by omega)]
theorem Oh {k:FloatKind} {x y:Nat} (hx:isNaN k x=false) (hy:isNaN k y=false):k.format.order x y=some (compare (key k x) (key k y)):=by
 have inf_pos:∀ {z:Nat} {s:Bool},k.decode z = .infinity s→key k z=if s then -(k.format.infRung:Int) else (k.format.infRung:Int):=by
  intro z s h
  obtain ⟨h1,h2⟩:=MX h
  unfold key;rw[h1,h2]
 have fin_lt:∀ {z:Nat} {s:Bool} {m:Nat} {e:Int},k.decode z = .number s m e → -(k.format.infRung:Int)<key k z∧key k z<(k.format.infRung:Int):=by
  intro z s m e h
  obtain ⟨h1,h2⟩:=Eh h
  unfold key;rw[h2]
  cases s <;>simp only[Bool.false_eq_true,if_false,if_true] <;>omega
 have hI:(0:Int)<(k.format.infRung:Int):=by cases k <;>decide
 have lt_c:∀ a b:Int,a<b→compare a b = .lt:=fun a b h=>by rcases CM a b with ⟨h1,e⟩ | ⟨h1,e⟩ | ⟨h1,e⟩ <;>first | exact e | omega
 have gt_c:∀ a b:Int,b<a→compare a b = .gt:=fun a b h=>by rcases CM a b with ⟨h1,e⟩ | ⟨h1,e⟩ | ⟨h1,e⟩ <;>first | exact e | omega
 have eq_c:∀ a b:Int,a=b→compare a b = .eq:=fun a b h=>by rcases CM a b with ⟨h1,e⟩ | ⟨h1,e⟩ | ⟨h1,e⟩ <;>first | exact e | omega
 unfold isNaN at hx hy
 cases h1:k.decode x with
 | nan s f=>rw[h1] at hx;simp[Ieee.Datum.isNaN] at hx
 | infinity s =>
   cases h2:k.decode y with
   | nan s f=>rw[h2] at hy;simp[Ieee.Datum.isNaN] at hy
   | infinity t =>
     have e1:k.format.read x = .infinity s:=h1
     have e2:k.format.read y = .infinity t:=h2
     simp only[Ieee.Format.order,e1,e2,Ieee.Datum.order]
     rw[inf_pos h1,inf_pos h2]
     cases s <;>cases t <;>simp only[Bool.false_eq_true,if_false,if_true]
     ·rw[eq_c _ _ rfl];rfl
     ·rw[gt_c _ _ (by omega)];rfl
     ·rw[lt_c _ _ (by omega)];rfl
     ·rw[eq_c _ _ rfl];rfl
   | number t n j =>
     have e1:k.format.read x = .infinity s:=h1
     have e2:k.format.read y = .number t n j:=h2
     have:=fin_lt h2
     simp only[Ieee.Format.order,e1,e2,Ieee.Datum.order]
     rw[inf_pos h1]
     cases s <;>simp only[Bool.false_eq_true,if_false,if_true]
     ·rw[gt_c _ _ (by omega)]
     ·rw[lt_c _ _ (by omega)]
 | number s m i =>
   cases h2:k.decode y with
   | nan s f=>rw[h2] at hy;simp[Ieee.Datum.isNaN] at hy
   | infinity t =>
     have e1:k.format.read x = .number s m i:=h1
     have e2:k.format.read y = .infinity t:=h2
     have:=fin_lt h1
     simp only[Ieee.Format.order,e1,e2,Ieee.Datum.order]
     rw[inf_pos h2]
     cases t <;>simp only[Bool.false_eq_true,if_false,if_true]
     ·rw[lt_c _ _ (by omega)]
     ·rw[gt_c _ _ (by omega)]
   | number t n j =>
     obtain ⟨o1,o2,o3⟩:=Eb (Dg h1) (Dg h2)
     rcases CM (key k x) (key k y) with ⟨h3,e⟩ | ⟨h3,e⟩ | ⟨h3,e⟩
     ·rw[e];exact o1.2 (Jh h1 h2 h3)
     ·rw[e];exact o2.2 (Nt h1 h2 h3)
     ·rw[e];exact o3.2 (Jh h2 h1 h3)
section
variable {k:FloatKind} {x y:Nat}
theorem LK (h:isNaN k x=true∨isNaN k y=true):k.format.order x y=none:=by
 unfold isNaN FloatKind.decode at h
 unfold Ieee.Format.order
 rcases h with h | h
 ·cases hr:k.format.read x with
  | nan s t=>simp[Ieee.Datum.order]
  | infinity s=>rw[hr] at h;cases h
  | number s m e=>rw[hr] at h;cases h
 ·cases hr:k.format.read y with
  | nan s t=>cases k.format.read x <;>simp[Ieee.Datum.order]
  | infinity s=>rw[hr] at h;cases h
  | number s m e=>rw[hr] at h;cases h
def M0 (k:FloatKind) (x y:Nat):Bool:=!isNaN k x && !isNaN k y
theorem I7:k.format.order x y=if M0 k x y then some (compare (key k x) (key k y)) else none:=by
 unfold M0
 cases hx:isNaN k x
 ·cases hy:isNaN k y
  ·exact Oh hx hy
  ·exact LK (.inr hy)
 ·exact LK (.inl hx)
theorem Q1:Sn k x y=(M0 k x y&&decide (key k x≤key k y)):=by
 unfold Sn
 rw[I7]
 cases M0 k x y
 ·rfl
 ·rcases CM (key k x) (key k y) with ⟨h,e⟩ | ⟨h,e⟩ | ⟨h,e⟩ <;>rw[if_pos rfl,e] <;>simp <;>omega
theorem Q3:SW k x y=(M0 k x y&&decide (key k y≤key k x)):=by
 unfold SW
 rw[I7]
 cases M0 k x y
 ·rfl
 ·rcases CM (key k x) (key k y) with ⟨h,e⟩ | ⟨h,e⟩ | ⟨h,e⟩ <;>rw[if_pos rfl,e] <;>simp <;>omega
end
theorem OJ {x:Nat} (h:x<4294967296):key .f32 x=if x<2147483648 then (x:Int) else -((x:Int) - 2147483648):=by
 have hw:FloatKind.f32.format.signWeight=2147483648:=rfl
 unfold key Od C5
 rw[hw]
 by_cases c:x<2147483648
 ·rw[if_pos c,Nat.div_eq_of_lt c,Nat.mod_eq_of_lt c];rfl
 ·have:x / 2147483648=1:=by omega
  rw[if_neg c,this,if_pos (by decide)]
  omega
theorem SY {x:Nat}:isNaN .f32 x=decide (2139095040<x % 2147483648):=IB x
abbrev Mem:=Nat × Nat × Nat × Nat
section
variable {σ α β:Type} {f:σ→α→β × σ} {P:σ→Prop} {Q:α→Prop} {S:β→Prop}
end
def HO (x:Nat):Bool:=decide (x % 2147483648<2139095040)
theorem OT {x:Nat} (h:HO x=true):isNaN .f32 x=false:=by
 unfold HO at h;rw[SY];simp at h ⊢;omega
theorem P5 {x:Nat} (h:HO x=true):∃ s m e,FloatKind.f32.decode x = .number s m e:=by
 cases hd:FloatKind.f32.decode x with
 | number s m e=>exact ⟨s,m,e,rfl⟩
 | infinity s =>
   have h1:=(MX hd).1
   unfold HO at h
   have e1:FloatKind.f32.format.infRung=2139095040:=by decide
   have e2:C5 .f32 x=x % 2147483648:=rfl
   simp at h
   omega
 | nan s t =>
   have:=OT h
   unfold isNaN at this
   rw[hd] at this;cases this
theorem Q9 {k:FloatKind} {x y:Nat} {a b B:Rat} (hx:DI k x a) (hy:DI k y b) (hB:EK k B) (hf:B<p2 (HF k)) (h1:a - b≤B) (h2 : -B≤a - b) :
  ∃ R,DI k (Pz k x y) R∧IK k (a - b) R:=by
 obtain ⟨s,m,i,e1,rfl,-⟩:=hx
 obtain ⟨t,n,j,e2,rfl,-⟩:=hy
 have e1:k.format.read x = .number s m i:=e1
 have e2:k.format.read y = .number t n j:=e2
 generalize hb:min i j=base
 generalize ht:Ieee.signed s m (i - base).toNat+Ieee.signed (!t) n (j - base).toNat=total
 have hadd:Pz k x y=k.encode (.number (if total=0 then s && !t else total<0) total.natAbs base):=by
  simp only[Pz,Ieee.Format.sub,e1,e2,Ieee.Datum.opposite,Ieee.Datum.sum,Option.map_some,hb,ht]
  rfl
 have hneg:sg (!t) (mv n j) = -sg t (mv n j):=by cases t <;>simp[sg]
 have hval:sg (if total=0 then s && !t else decide (total<0)) (mv total.natAbs base)=sg s (mv m i) - sg t (mv n j):=by
  rw[Rat.sub_eq_add_neg,← hneg,IM,← ht,Rat.intCast_add,Rat.add_mul,Bj,Bj]
  congr 2 <;>congr 1 <;>omega
 rw[hadd,← hval]
 exact Ef k _ _ _ hB (L3 (Ak _ _) (by rw[hval];exact h1) (by rw[hval];exact h2)) hf
theorem O5 (k:FloatKind) (s:Bool) (m:Nat) (e:Int):k.encode (.number s m e)<2 * k.format.signWeight:=Hb k (by intro _ _ h;cases h)
theorem Q2 (k:FloatKind) (x y:Nat):Ke k x y<2 * k.format.signWeight:=by
 unfold Ke Ieee.Format.add
 cases h:(k.format.read x).sum (k.format.read y) with
 | none=>cases k <;>decide
 | some d=>exact Hb k (fun s t e=>FW h s t e)
theorem Qu (k:FloatKind) (x y:Nat):Lv k x y<2 * k.format.signWeight:=by
 unfold Lv Ieee.Format.mul
 cases h:(k.format.read x).product (k.format.read y) with
 | none=>cases k <;>decide
 | some d=>exact Hb k (fun s t e=>FK h s t e)
theorem J3 (k:FloatKind) (n:Int):k.nearest n<2 * k.format.signWeight:=O5 k _ _ _
theorem In {k:FloatKind} {x y:Nat} {a:Rat} (hx:x<2 * k.format.signWeight) (hy:y<2 * k.format.signWeight) (h1:DI k x a) (h2:DI k y a) (ha:a≠0):x=y:=by
 obtain ⟨s,m,i,e1,h3,-⟩:=h1
 obtain ⟨t,n,j,e2,h4,-⟩:=h2
 have p1:=Ak m i
 have p2:=Ak n j
 have hst:s=t:=by
  cases s <;>cases t <;>simp only[D7,Bp] at h3 h4 <;>first | rfl | (exfalso;grind)
 subst hst
 refine QI hx hy e1 e2 ?_
 cases s <;>simp only[D7,Bp] at h3 h4 <;>grind
theorem Dc (k:FloatKind) {B:Nat} (hB:B≤2 * k.format.binade):EK k (B:Rat):=by
 refine ⟨B,0,hB,by cases k <;>decide,?_⟩
 unfold mv;rw[E8,Rat.mul_one]
theorem E9 (k:FloatKind) {B:Nat} (hB:B≤2 * k.format.binade):(B:Rat)<p2 (HF k):=by
 have h1:(B:Rat)≤((2 * k.format.binade:Nat):Rat):=by exact_mod_cast hB
 have h2:((2 * k.format.binade:Nat):Rat)<p2 (HF k):=by
  have:∃ j:Nat,2 * k.format.binade=2 ^ j∧(j:Int)<HF k:=by
   cases k
   ·exact ⟨24,by decide,by decide⟩
   ·exact ⟨53,by decide,by decide⟩
  obtain ⟨j,e,h⟩:=this
  rw[e,← MD]
  exact Pe h
 exact TG h1 h2
theorem OS {k:FloatKind} {n:Int} (hn:n.natAbs≤2 * k.format.binade):SJ k (n:Rat):=(DW hn).rep
theorem MH {n:Int}:(n:Rat)≤((n.natAbs:Nat):Rat) ∧ -((n.natAbs:Nat):Rat)≤(n:Rat):=by
 have h1:n≤((n.natAbs:Nat):Int):=by omega
 have h2 : -((n.natAbs:Nat):Int)≤n:=by omega
 have e:((n.natAbs:Nat):Rat)=(((n.natAbs:Nat):Int):Rat):=(Rat.intCast_natCast _).symm
 rw[e]
 refine ⟨Rat.intCast_le_intCast.2 h1,?_⟩
 rw[← Rat.intCast_neg]
 exact Rat.intCast_le_intCast.2 h2
theorem Ez (k:FloatKind):k.nearest 0=0:=by cases k <;>decide
theorem Qy {k:FloatKind} {a b:Int} (ha:a.natAbs≤2 * k.format.binade) (hb:b.natAbs≤2 * k.format.binade) (hab:(a+b).natAbs≤2 * k.format.binade):Ke k (k.nearest a) (k.nearest b)=k.nearest (a+b):=by
 have va:=DW (k:=k) ha
 have vb:=DW (k:=k) hb
 by_cases h0:a+b=0
 ·rw[h0,Ez]
  obtain ⟨s,m,i,e1,h1,-⟩:=va
  obtain ⟨t,n,j,e2,h2,-⟩:=vb
  have p1:=Ak m i
  have p2' :=Ak n j
  have hbv:(b:Rat) = -(a:Rat):=by
   have:b = -a:=by omega
   rw[this,Rat.intCast_neg]
  have hst:(s&&t)=false:=by
   by_cases h:a=0
   ·subst h
    rw[Ez] at e1
    have:k.decode 0 = .number false 0 k.format.leastPlace:=by cases k <;>decide
    rw[this] at e1
    cases e1;rfl
   ·have hne:(a:Rat)≠0:=by exact_mod_cast h
    cases s <;>cases t <;>simp only[D7,Bp] at h1 h2 <;>first | rfl | (exfalso;grind)
  have e1:k.format.read (k.nearest a) = .number s m i:=e1
  have e2:k.format.read (k.nearest b) = .number t n j:=e2
  generalize hbase:min i j=base
  have ht:Ieee.signed s m (i - base).toNat+Ieee.signed t n (j - base).toNat=0:=by
   have h3:((Ieee.signed s m (i - base).toNat+Ieee.signed t n (j - base).toNat:Int):Rat) * p2 base=0:=by
    rw[Rat.intCast_add,Rat.add_mul,Bj,Bj]
    rw[show base+((i - base).toNat:Int)=i by omega,show base+((j - base).toNat:Int)=j by omega,← h1,← h2,hbv]
    grind
   have h4:=Gv base
   have h5:((Ieee.signed s m (i - base).toNat+Ieee.signed t n (j - base).toNat:Int):Rat)=0:=by
    rcases Rat.mul_eq_zero.1 h3 with h | h
    ·exact h
    ·rw[h] at h4;exact absurd h4 (by decide)
   exact_mod_cast h5
  simp only[Ke,Ieee.Format.add,e1,e2,Ieee.Datum.sum,Option.map_some,hbase,ht,hst]
  rfl
 ·have hv:(a:Rat)+(b:Rat)=((a+b:Int):Rat):=(Rat.intCast_add _ _).symm
  obtain ⟨h1,h2⟩:=MH (n:=a+b)
  obtain ⟨R,h3,h4⟩:=Ob va vb (Dc k hab) (E9 k hab) (by rw[hv];exact h1) (by rw[hv];exact h2)
  rw[hv] at h4
  have h5:=h3.near_eq h4 (OS hab)
  exact In (Q2 _ _ _) (J3 _ _) h5 (DW hab) (by exact_mod_cast h0)
def Bd (k:FloatKind) (x:Nat) (B:Nat):Prop:=∃ v:Rat,DI k x v ∧ -(B:Rat)≤v∧v≤(B:Rat)
theorem IK.bd {k:FloatKind} {v R:Rat} {B:Nat} (h:IK k v R) (hB:B≤2 * k.format.binade) (h1:v≤(B:Rat)) (h2 : -(B:Rat)≤v) : -(B:Rat)≤R∧R≤(B:Rat) :=
 ⟨(h _ (Dc k hB).neg).2 h2,(h _ (Dc k hB).rep).1 h1⟩
theorem Bd.add {k:FloatKind} {x y A B:Nat} (hx:Bd k x A) (hy:Bd k y B) (h:A+B≤2 * k.format.binade):Bd k (Ke k x y) (A+B):=by
 obtain ⟨v,h1,h2,h3⟩:=hx
 obtain ⟨w,h4,h5,h6⟩:=hy
 have e:=Rat.natCast_add A B
 have g1:v+w≤((A+B:Nat):Rat):=by rw[e];grind
 have g2 : -((A+B:Nat):Rat)≤v+w:=by rw[e];grind
 obtain ⟨R,q1,q2⟩:=Ob h1 h4 (Dc k h) (E9 k h) g1 g2
 exact ⟨R,q1,q2.bd h g1 g2⟩
theorem Bd.sub {k:FloatKind} {x y A B:Nat} (hx:Bd k x A) (hy:Bd k y B) (h:A+B≤2 * k.format.binade):Bd k (Pz k x y) (A+B):=by
 obtain ⟨v,h1,h2,h3⟩:=hx
 obtain ⟨w,h4,h5,h6⟩:=hy
 have e:=Rat.natCast_add A B
 have g1:v - w≤((A+B:Nat):Rat):=by rw[e];grind
 have g2 : -((A+B:Nat):Rat)≤v - w:=by rw[e];grind
 obtain ⟨R,q1,q2⟩:=Q9 h1 h4 (Dc k h) (E9 k h) g1 g2
 exact ⟨R,q1,q2.bd h g1 g2⟩
theorem NA {v w A B:Rat} (hA:0≤A) (hB:0≤B) (h1 : -A≤v) (h2:v≤A) (h3 : -B≤w) (h4:w≤B) : -(A * B)≤v * w∧v * w≤A * B:=by
 have key:∀ v w:Rat,0≤v→0≤w→v≤A→w≤B→0≤v * w∧v * w≤A * B:=fun v w a b c d =>
  ⟨Rat.mul_nonneg a b,Rat.le_trans (Rat.mul_le_mul_of_nonneg_right c b) (Rat.mul_le_mul_of_nonneg_left d hA)⟩
 rcases (Rat.le_total:(0:Rat)≤v∨v≤0) with hv | hv <;>rcases (Rat.le_total:(0:Rat)≤w∨w≤0) with hw | hw
 ·have:=key v w hv hw h2 h4;grind
 ·have:=key v (-w) hv (by grind) h2 (by grind);grind
 ·have:=key (-v) w (by grind) hw (by grind) h4;grind
 ·have:=key (-v) (-w) (by grind) (by grind) (by grind) (by grind);grind
theorem Bd.mul {k:FloatKind} {x y A B:Nat} (hx:Bd k x A) (hy:Bd k y B) (h:A * B≤2 * k.format.binade):Bd k (Lv k x y) (A * B):=by
 obtain ⟨v,h1,h2,h3⟩:=hx
 obtain ⟨w,h4,h5,h6⟩:=hy
 have e:=Rat.natCast_mul A B
 have hA:(0:Rat)≤(A:Rat):=by exact_mod_cast Nat.zero_le A
 have hB:(0:Rat)≤(B:Rat):=by exact_mod_cast Nat.zero_le B
 obtain ⟨g2,g1⟩:=NA hA hB h2 h3 h5 h6
 rw[← e] at g1 g2
 obtain ⟨R,q1,q2⟩:=Og h1 h4 (Dc k h) (E9 k h) g1 g2
 exact ⟨R,q1,q2.bd h g1 g2⟩
theorem Bd.div {k:FloatKind} {x y A:Nat} {w:Rat} (hx:Bd k x A) (hy:DI k y w) (hw:1≤w) (h:A≤2 * k.format.binade):Bd k (fdiv k x y) A:=by
 obtain ⟨v,h1,h2,h3⟩:=hx
 have hA:(0:Rat)≤(A:Rat):=by exact_mod_cast Nat.zero_le A
 have hw0:w≠0:=by grind
 have hpos:0<w:=by grind
 have hq:v / w * w=v:=Rat.div_mul_cancel hw0
 have hAw:(A:Rat) * 1≤(A:Rat) * w:=Rat.mul_le_mul_of_nonneg_left hw hA
 have g1:v / w≤(A:Rat):=by
  refine Rat.not_lt.1 fun h => ?_
  have:=(Rat.mul_lt_mul_right hpos).2 h
  grind
 have g2 : -(A:Rat)≤v / w:=by
  refine Rat.not_lt.1 fun h => ?_
  have:=(Rat.mul_lt_mul_right hpos).2 h
  grind
 obtain ⟨R,q1,q2⟩:=RH h1 hy hw0 (Dc k h) (E9 k h) g1 g2
 exact ⟨R,q1,q2.bd h g1 g2⟩
theorem Bd.mono {k:FloatKind} {x A B:Nat} (h:Bd k x A) (hAB:A≤B):Bd k x B:=by
 obtain ⟨v,h1,h2,h3⟩:=h
 have:(A:Rat)≤(B:Rat):=by exact_mod_cast hAB
 exact ⟨v,h1,by grind,by grind⟩
theorem Bd.int {k:FloatKind} {n:Int} {B:Nat} (h:n.natAbs≤B) (hB:B≤2 * k.format.binade):Bd k (k.nearest n) B:=by
 obtain ⟨h1,h2⟩:=MH (n:=n)
 have:((n.natAbs:Nat):Rat)≤(B:Rat):=by exact_mod_cast h
 exact ⟨_,DW (by omega),by grind,by grind⟩
theorem Bd.toInt {x B:Nat} (h:Bd .f64 x B) (hB:B≤4611686018427387904):∃ n:Int,EP .f64 x .i64=some n∧n.natAbs≤B:=by
 obtain ⟨v,⟨s,m,i,e1,rfl,-⟩,h2,h3⟩:=h
 have hv:=Ak m i
 have hmv:mv m i≤(B:Rat):=by cases s <;>simp only[D7,Bp] at h2 h3 <;>grind
 have hc:(m <<< i.toNat) / 2 ^ (-i).toNat≤B:=by
  refine Nat.div_le_of_le_mul ?_
  rw[Nat.shiftLeft_eq]
  have h4:mv (m * 2 ^ i.toNat) (-((-i).toNat:Int))≤mv (2 ^ (-i).toNat * B) (-((-i).toNat:Int)):=by
   rw[Nat.mul_comm (2 ^ (-i).toNat),A7,A7]
   rw[show -((-i).toNat:Int)+(i.toNat:Int)=i by omega,show -((-i).toNat:Int)+((-i).toNat:Int)=0 by omega]
   have e0:mv B 0=(B:Rat):=by unfold mv;rw[E8,Rat.mul_one]
   rw[e0];exact hmv
  exact Bo.1 h4
 refine ⟨Ieee.signed s ((m <<< i.toNat) / 2 ^ (-i).toNat) 0,?_,?_⟩
 ·unfold EP
  rw[e1]
  simp only[Ieee.Datum.toInt,Ieee.Datum.integral,Pn]
  have h5:IntKind.i64.min≤Ieee.signed s ((m <<< i.toNat) / 2 ^ (-i).toNat) 0∧Ieee.signed s ((m <<< i.toNat) / 2 ^ (-i).toNat) 0≤IntKind.i64.max:=by
   have e1:IntKind.i64.min = -9223372036854775808:=by decide
   have e2:IntKind.i64.max=9223372036854775807:=by decide
   rw[e1,e2]
   generalize (m <<< i.toNat) / 2 ^ (-i).toNat=c at *
   unfold Ieee.signed
   simp only[Nat.shiftLeft_zero]
   split <;>omega
  rw[if_pos h5]
 ·generalize (m <<< i.toNat) / 2 ^ (-i).toNat=c at *
  unfold Ieee.signed
  simp only[Nat.shiftLeft_zero]
  split <;>omega
theorem Bd.even {x B:Nat} (h:Bd .f64 x B) (hB:B≤2 * FloatKind.f64.format.binade):Bd .f64 (CI .even x) B:=by
 obtain ⟨v,⟨s,m,i,e1,rfl,-⟩,h2,h3⟩:=h
 have hv:=Ak m i
 have hmv:mv m i≤(B:Rat):=by cases s <;>simp only[D7,Bp] at h2 h3 <;>grind
 have hn:m <<< i.toNat≤B * 2 ^ (-i).toNat:=by
  rw[Nat.shiftLeft_eq]
  have h4:mv (m * 2 ^ i.toNat) (-((-i).toNat:Int))≤mv (B * 2 ^ (-i).toNat) (-((-i).toNat:Int)):=by
   rw[A7,A7]
   rw[show -((-i).toNat:Int)+(i.toNat:Int)=i by omega,show -((-i).toNat:Int)+((-i).toNat:Int)=0 by omega]
   have e0:mv B 0=(B:Rat):=by unfold mv;rw[E8,Rat.mul_one]
   rw[e0];exact hmv
  exact Bo.1 h4
 have hc:=(Jw s (m <<< i.toNat) (-i).toNat B).1 hn
 have e2:CI .even x=FloatKind.f64.encode (.number s (Ieee.Toward.cut .even s (m <<< i.toNat) (-i).toNat) 0):=by
  unfold CI;rw[e1];rfl
 rw[e2]
 generalize Ieee.Toward.cut .even s (m <<< i.toNat) (-i).toNat=c at *
 have hcb:c≤2 * FloatKind.f64.format.binade:=by omega
 have e3:mv c 0=(c:Rat):=by unfold mv;rw[E8,Rat.mul_one]
 have e4:(c:Rat)≤(B:Rat):=by exact_mod_cast hc
 have e5:(0:Rat)≤(c:Rat):=by exact_mod_cast Nat.zero_le c
 obtain ⟨m',e',q1,q2⟩:=Mj .f64 s (m:=c) (e:=0) (by rw[e3];exact Dc .f64 hcb) (by rw[e3];exact E9 .f64 hcb)
 refine ⟨_,Dg q1,?_,?_⟩ <;>rw[q2,e3] <;>cases s <;>simp only[D7,Bp] <;>grind
theorem RC {x:Nat} (h:HO x=true):DI .f32 x (fval .f32 x):=by
 obtain ⟨s,m,e,hd⟩:=P5 h
 have:=Dg hd
 unfold fval;rw[hd];exact this
theorem DI.fval {k:FloatKind} {x:Nat} {v:Rat} (h:DI k x v):Go.Desk.fval k x=v:=by
 obtain ⟨s,m,e,h1,h2,-⟩:=h
 unfold Go.Desk.fval;rw[h1];exact h2.symm
theorem DI.fin {x:Nat} {v:Rat} (h:DI .f32 x v):HO x=true:=by
 obtain ⟨s,m,e,h1,-⟩:=h
 have:=(Eh h1).1
 unfold HO
 exact decide_eq_true this
theorem Qb {x:Nat} {v:Rat} (hx:SK x) (h:DI .f32 x v):(0≤v→DI .f32 (Ep x) v)∧(v≤0→DI .f32 (Ep x) (-v)):=by
 have hn:=h.num
 obtain ⟨s,m,e,h1,rfl,h2,h3⟩:=h
 have hs:Ep x=x % 2147483648:=by unfold Ep;rw[hn];rfl
 have h4:FloatKind.f32.decode (Ep x) = .number false m e:=by rw[hs];exact NN.1 s m e h1
 have h5:=Dg h4
 have hnn:=Ak m e
 rw[Bp] at h5
 constructor
 ·intro h
  cases s <;>simp only[D7,Bp] at h ⊢
  ·exact h5
  ·have:mv m e=0:=by grind
   rw[this] at h5 ⊢;simpa using h5
 ·intro h
  cases s <;>simp only[D7,Bp] at h ⊢
  ·have:mv m e=0:=by grind
   rw[this] at h5 ⊢;simpa using h5
  ·rw[Rat.neg_neg];exact h5
def GA (x:Nat):Bool:=HO x&&(x % 2147483648==0||(decide (1031798784≤x % 2147483648)&&decide (x % 2147483648≤1091829760)))
theorem PI:∀ m:Nat,m<129→(GA (fdiv .f32 (FloatKind.f32.nearest ((m:Int) - 64)) 1088421888)&&GA (fdiv .f32 (FloatKind.f32.nearest ((m:Int) - 64)) 1098907648))=true:=by decide +kernel
theorem Ij.ok {x:Nat} (h:Ij x):GA x=true:=by
 obtain ⟨m,hm,h⟩:=h
 obtain ⟨k,hk⟩:=Int.eq_ofNat_of_zero_le (show 0≤m+64 by omega)
 have hm':m=(k:Int) - 64:=by omega
 have:=PI k (by omega)
 rw[← hm',zB] at this
 rcases h with rfl | rfl
 ·exact this.1
 ·exact this.2
theorem Ij.fin {x:Nat} (h:Ij x):HO x=true:=by
 have:=h.ok
 unfold GA at this
 rw[zB] at this
 exact this.1
theorem PE (x:Nat) (s:Bool) (m:Nat) (e:Int) (h:FloatKind.f32.decode x = .number s m e):DI .f32 x (sg s (mv m e)):=Dg h
theorem Ij.val {x:Nat} (h:Ij x):∃ v,DI .f32 (Ep x) v∧(v=0∨1 / 16≤v)∧0≤v∧v≤10∧(fval .f32 x=v∨fval .f32 x = -v):=by
 have hf:=h.fin
 have hok:=h.ok
 have hw:=h.w32
 have hv:=RC hf
 obtain ⟨s1,s2⟩:=Qb hw hv
 have hn:=OT hf
 have hs:Ep x=x % 2147483648:=by unfold Ep;rw[hn];rfl
 have hex:∃ v,DI .f32 (Ep x) v∧0≤v∧(fval .f32 x=v∨fval .f32 x = -v):=by
  rcases (Rat.le_total:(0:Rat)≤fval .f32 x∨fval .f32 x≤0) with h1 | h1
  ·exact ⟨_,s1 h1,h1,.inl rfl⟩
  ·exact ⟨_,s2 h1,by grind,.inr (by grind)⟩
 obtain ⟨v,q1,q2,q3⟩:=hex
 refine ⟨v,q1,?_,q2,?_,q3⟩
 ·unfold GA at hok
  simp only[zB,Bool.or_eq_true,beq_iff_eq,decide_eq_true_eq] at hok
  rcases hok.2 with h0 | ⟨h1,-⟩
  ·rw[← hs] at h0
   rw[h0] at q1
   exact .inl (q1.inj (P6 .f32))
  ·refine .inr ?_
   have hc:DI .f32 1031798784 (1 / 16):=by
    have:=PE 1031798784 false (2 ^ 23) (-27) (by decide)
    rw[Bp,CZ] at this
    have e:p2 (-27+((23:Nat):Int)) * 16=1:=by
     have h4:=IR (-27+((23:Nat):Int)) 4
     have h16:p2 4=16:=by have:=MD 4;rw[show ((4:Nat):Int)=4 from rfl] at this;rw[this];rfl
     rw[h16] at h4;rw[← h4,show (-27:Int)+((23:Nat):Int)+4=0 by decide,E8]
    have e2:p2 (-27+((23:Nat):Int))=1 / 16:=by grind
    rw[e2] at this;exact this
   have:=(Q4 q1 hc).1 (by
    rw[Q3];unfold M0
    rw[q1.num,hc.num,OJ (by omega),OJ (by omega),if_pos (by omega),if_pos (by omega)]
    simp;omega)
   exact this
 ·unfold GA at hok
  simp only[zB,Bool.or_eq_true,beq_iff_eq,decide_eq_true_eq] at hok
  have hle:x % 2147483648≤1091829760:=by rcases hok.2 with h0 | ⟨-,h1⟩ <;>omega
  have hc:DI .f32 1092616192 10:=by
   have:=DW (k:=.f32) (n:=10) (by decide)
   rwa [show FloatKind.f32.nearest 10=1092616192 by decide] at this
  refine (Qp q1 hc).1 ?_
  rw[Q1];unfold M0
  rw[q1.num,hc.num,OJ (by omega),OJ (by omega),if_pos (by omega),if_pos (by omega)]
  simp;omega
theorem NV:2 * FloatKind.f32.format.binade=16777216:=by decide
theorem RF {a b:Int} (ha:a.natAbs≤16777216) (hb:b.natAbs≤16777216) (hab:(a * b).natAbs≤16777216) (h0:a * b≠0):Lv .f32 (FloatKind.f32.nearest a) (FloatKind.f32.nearest b)=FloatKind.f32.nearest (a * b):=by
 have b32:2 * FloatKind.f32.format.binade=16777216:=NV
 have va:=DW (k:=.f32) (n:=a) (by rw[b32];exact ha)
 have vb:=DW (k:=.f32) (n:=b) (by rw[b32];exact hb)
 have hab':(a * b).natAbs≤2 * FloatKind.f32.format.binade:=by rw[b32];exact hab
 have hv:(a:Rat) * (b:Rat)=((a * b:Int):Rat):=(Rat.intCast_mul _ _).symm
 obtain ⟨h1,h2⟩:=MH (n:=a * b)
 obtain ⟨R,h3,h4⟩:=Og va vb (Dc .f32 hab') (E9 .f32 hab') (by rw[hv];exact h1) (by rw[hv];exact h2)
 rw[hv] at h4
 have h5:=h3.near_eq h4 (OS hab')
 exact In (Qu _ _ _) (J3 _ _) h5 (DW hab') (by exact_mod_cast h0)
theorem Mx:FloatKind.f32.nearest 1=1065353216:=by decide
theorem one_mul {a:Int} (h : -1000000≤a∧a≤1000000):Lv .f32 1065353216 (FloatKind.f32.nearest a)=FloatKind.f32.nearest a:=by
 by_cases h0:a=0
 ·subst h0;decide
 ·have:=RF (a:=1) (b:=a) (by decide) (by omega) (by omega) (by omega)
  rw[Mx,Int.one_mul] at this
  exact this
theorem Kv {a:Int} (h : -1000000≤a∧a≤1000000):a.natAbs≤2 * FloatKind.f32.format.binade:=by
 rw[show 2 * FloatKind.f32.format.binade=16777216 from NV];omega
theorem add_zero {a:Int} (h : -1000000≤a∧a≤1000000):Ke .f32 (FloatKind.f32.nearest a) 0=FloatKind.f32.nearest a:=by
 have:=Qy (k:=.f32) (a:=a) (b:=0) (Kv h) (by decide) (by simpa using Kv h)
 rw[Ez] at this
 simpa using this
end Go.Desk
namespace Go.Desk
open Go
end Go.Desk
end
section
namespace Go.Proofs
open Go.Shelf
def Tryd.laysM173_ren:Go.Shelf.Ren:=⟨fun | 173=>57 | 246=>80 | 283=>98 | 284=>99 | 285=>100 | 286=>101 | 129=>117 | 317=>116 | 318=>118 | 319=>119 | 320=>120 | 337=>135 | 338=>136 | n=>n,fun | 2=>2 | 3=>3 | 9=>9 | 4=>4 | 171=>136 | 0=>0 | 53=>95 | 37=>32 | 5=>5 | 173=>139 | 212=>161 | 51=>129 | 20=>20 | 213=>162 | 46=>114 | 232=>182 | 233=>183 | n=>n,fun | 17=>2 | 18=>5 | 19=>6 | n=>n⟩
theorem Tryd.laysM173:Go.Proofs.LaysM.n173 Tryd.prog Tryd.laysM173_ren:={
 mixed:=by kernel_rfl
 f129:=Tryd.func117.trans (congrArg some (by kernel_rfl))
 f173:=Tryd.func57.trans (congrArg some (by kernel_rfl))
 f246:=Tryd.func80.trans (congrArg some (by kernel_rfl))
 f283:=Tryd.func98.trans (congrArg some (by kernel_rfl))
 f284:=Tryd.func99.trans (congrArg some (by kernel_rfl))
 f285:=Tryd.func100.trans (congrArg some (by kernel_rfl))
 f286:=Tryd.func101.trans (congrArg some (by kernel_rfl))
 f317:=Tryd.func116.trans (congrArg some (by kernel_rfl))
 f318:=Tryd.func118.trans (congrArg some (by kernel_rfl))
 f319:=Tryd.func119.trans (congrArg some (by kernel_rfl))
 f320:=Tryd.func120.trans (congrArg some (by kernel_rfl))
 f337:=Tryd.func135.trans (congrArg some (by kernel_rfl))
 f338:=Tryd.func136.trans (congrArg some (by kernel_rfl))
 t0:=Tryd.underlying0
 a0:=Tryd.isAgg0
 z0:=Tryd.sizeOf0
 v0:=Tryd.zeroValue0
 t2:=Tryd.underlying2
 a2:=Tryd.isAgg2
 z2:=Tryd.sizeOf2
 v2:=Tryd.zeroValue2
 t3:=Tryd.underlying3
 a3:=Tryd.isAgg3
 z3:=Tryd.sizeOf3
 v3:=Tryd.zeroValue3
 t4:=Tryd.underlying4
 a4:=Tryd.isAgg4
 z4:=Tryd.sizeOf4
 v4:=Tryd.zeroValue4
 t5:=Tryd.underlying5
 a5:=Tryd.isAgg5
 z5:=Tryd.sizeOf5
 v5:=Tryd.zeroValue5
 t9:=Tryd.underlying9
 a9:=Tryd.isAgg9
 z9:=Tryd.sizeOf9
 v9:=Tryd.zeroValue9
 t20:=Tryd.underlying20
 a20:=Tryd.isAgg20
 z20:=Tryd.sizeOf20
 v20:=Tryd.zeroValue20
 t37:=Tryd.underlying32
 a37:=Tryd.isAgg32
 z37:=Tryd.sizeOf32
 v37:=Tryd.zeroValue32
 t46:=Tryd.underlying114
 a46:=Tryd.isAgg114
 z46:=Tryd.sizeOf114
 v46:=Tryd.zeroValue114
 t51:=Tryd.underlying129
 a51:=Tryd.isAgg129
 z51:=Tryd.sizeOf129
 v51:=Tryd.zeroValue129
 t53:=Tryd.underlying95
 a53:=Tryd.isAgg95
 z53:=Tryd.sizeOf95
 v53:=Tryd.zeroValue95
 t171:=Tryd.underlying136
 a171:=Tryd.isAgg136
 z171:=Tryd.sizeOf136
 v171:=Tryd.zeroValue136
 t173:=Tryd.underlying139
 a173:=Tryd.isAgg139
 z173:=Tryd.sizeOf139
 v173:=Tryd.zeroValue139
 t212:=Tryd.underlying161
 a212:=Tryd.isAgg161
 z212:=Tryd.sizeOf161
 v212:=Tryd.zeroValue161
 t213:=Tryd.underlying162
 a213:=Tryd.isAgg162
 z213:=Tryd.sizeOf162
 t232:=Tryd.underlying182
 a232:=Tryd.isAgg182
 z232:=Tryd.sizeOf182
 v232:=Tryd.zeroValue182
 t233:=Tryd.underlying183
 a233:=Tryd.isAgg183
 z233:=Tryd.sizeOf183
 v233:=Tryd.zeroValue183
 g17:=by kernel_rfl
 g18:=by kernel_rfl
 g19:=by kernel_rfl
 i0:=by kernel_rfl
 i2:=by kernel_rfl
 i3:=by kernel_rfl
 i4:=by kernel_rfl
 i5:=by kernel_rfl
 i9:=by kernel_rfl
 i20:=by kernel_rfl
 i37:=by kernel_rfl
 i46:=by kernel_rfl
 i51:=by kernel_rfl
 i53:=by kernel_rfl
 i171:=by kernel_rfl
 i173:=by kernel_rfl
 i212:=by kernel_rfl
 i232:=by kernel_rfl
 i233:=by kernel_rfl
 m17:=by kernel_rfl
 m18:=by kernel_rfl
 m19:=by kernel_rfl }
open Go.RowKit Go.Sort Go.Lib in
theorem Tryd.strconv_FormatInt_10 (n : Int) (h0 : -9223372036854775808 ≤ n) (h1 : n ≤ 9223372036854775807) (w : World) (htab : Lib.TabIs Tryd.prog w "internal/strconv.uint64pow10" .u64 Lib.pow10Tab) :
  Calls Tryd.prog 57 #[.int .i64 n,.int .i64 10] w fun e w'=>e = .returned (.string ⟨(Lib.itoa n).toArray⟩)∧∃ k os,w'=grow (w.drewN k) os:=Any.strconv_FormatInt_10 Tryd.laysM173 n h0 h1 w htab
def Tryd.lays145_ren:Go.Shelf.Ren:=⟨fun | 145=>37 | 220=>59 | 219=>78 | 217=>91 | 225=>95 | 224=>96 | 267=>97 | 266=>109 | 314=>115 | n=>n,fun | 9=>9 | 4=>4 | 59=>69 | 3=>3 | 5=>5 | 46=>114 | 146=>158 | 51=>129 | n=>n,fun | 1=>0 | n=>n⟩
theorem Tryd.lays145:Go.Proofs.Lays.n145 Tryd.prog Tryd.lays145_ren:={
 mixed:=by kernel_rfl
 f145:=Tryd.func37.trans (congrArg some (by kernel_rfl))
 f217:=Tryd.func91.trans (congrArg some (by kernel_rfl))
 f219:=Tryd.func78.trans (congrArg some (by kernel_rfl))
 f220:=Tryd.func59.trans (congrArg some (by kernel_rfl))
 f224:=Tryd.func96.trans (congrArg some (by kernel_rfl))
 f225:=Tryd.func95.trans (congrArg some (by kernel_rfl))
 f266:=Tryd.func109.trans (congrArg some (by kernel_rfl))
 f267:=Tryd.func97.trans (congrArg some (by kernel_rfl))
 f314:=Tryd.func115.trans (congrArg some (by kernel_rfl))
 t3:=Tryd.underlying3
 a3:=Tryd.isAgg3
 z3:=Tryd.sizeOf3
 v3:=Tryd.zeroValue3
 t4:=Tryd.underlying4
 a4:=Tryd.isAgg4
 z4:=Tryd.sizeOf4
 v4:=Tryd.zeroValue4
 t5:=Tryd.underlying5
 a5:=Tryd.isAgg5
 z5:=Tryd.sizeOf5
 v5:=Tryd.zeroValue5
 t9:=Tryd.underlying9
 a9:=Tryd.isAgg9
 z9:=Tryd.sizeOf9
 v9:=Tryd.zeroValue9
 t46:=Tryd.underlying114
 a46:=Tryd.isAgg114
 z46:=Tryd.sizeOf114
 v46:=Tryd.zeroValue114
 t51:=Tryd.underlying129
 a51:=Tryd.isAgg129
 z51:=Tryd.sizeOf129
 v51:=Tryd.zeroValue129
 t59:=Tryd.underlying69
 a59:=Tryd.isAgg69
 z59:=Tryd.sizeOf69
 v59:=Tryd.zeroValue69
 t146:=Tryd.underlying158
 a146:=Tryd.isAgg158
 z146:=Tryd.sizeOf158
 v146:=Tryd.zeroValue158
 g1:=by kernel_rfl }
open Go.RowKit Go.Lib in
theorem Tryd.strings_Cut (s sep:ByteArray) (m:Int) (w:World) (hs:s.size<4294967281) (hm:w.cell? ⟨0,0,none⟩=some (.int .i64 m)) :
  Calls Tryd.prog 37 #[.string s,.string sep] w fun e w'=>e = .returned (.tuple #[.string ⟨(Lib.cut s.data.toList sep.data.toList).1.toArray⟩,.string ⟨(Lib.cut s.data.toList sep.data.toList).2.1.toArray⟩,.bool (Lib.cut s.data.toList sep.data.toList).2.2])∧∃ n,w'=w.drewN n:=Any.strings_Cut Tryd.lays145 s sep m w hs hm
end Go.Proofs
end
section
namespace Go.Proofs.YtokonabdnlckdaaDoor.DS
open Go Go.Desk Go.Shelf Go.RowKit Go.Lib Go.Sort
set_option linter.unusedVariables false
theorem RA (xs:Array Value) (w:World):(callFunc 37 xs).run Tryd.prog w = .ok (.enter 37 xs) w:=by
 have h1 : Tryd.f37.name ≠ "runtime.NumGoroutine" := by
  have h : (Tryd.f37.name == "runtime.NumGoroutine") = false := by kernel_rfl
  simpa using h
 obtain ⟨c,hc⟩:=Option.isSome_iff_exists.1 (show Tryd.f37.body.isSome=true by kernel_rfl)
 simp[callFunc,Tryd.func37,h1,hc]
theorem ok37 {E : AX} (hL : "internal/bytealg.MaxLen" ∈ E.laid) : Dv Tryd.prog E 37 (.ext (Cw Mu)) :=
 JO (RM RA (by kernel_rfl) hL fun s sep m w hs hm=>Tryd.strings_Cut s sep m w hs hm)
theorem Q5 (xs:Array Value) (w:World):(callFunc 57 xs).run Tryd.prog w = .ok (.enter 57 xs) w:=by
 have h1 : Tryd.f57.name ≠ "runtime.NumGoroutine" := by
  have h : (Tryd.f57.name == "runtime.NumGoroutine") = false := by kernel_rfl
  simpa using h
 obtain ⟨c,hc⟩:=Option.isSome_iff_exists.1 (show Tryd.f57.body.isSome=true by kernel_rfl)
 simp[callFunc,Tryd.func57,h1,hc]
theorem ok57 {E : AX} (hL : "internal/strconv.uint64pow10" ∈ E.laid) : Dv Tryd.prog E 57 (.ext (Cw D6)) :=
 JO (OA Q5 (by kernel_rfl) hL fun n h0 h1 w htab=>Tryd.strconv_FormatInt_10 n h0 h1 w htab)
end Go.Proofs.YtokonabdnlckdaaDoor.DS
end
section
namespace Go.Proofs.YtokonabdnlckdaaDoor.DN
open Go Go.Desk
def CE (f:Func):Code:=match f.body with
 | some c=>c
 | none => .skip
def MU:List (Nat × TD):=[
 (3,⟨false,1,8,[.leaf],[.int .i64 0],.int .i64⟩),
 (4,⟨false,1,1,[.leaf],[.bool false],.bool⟩),
 (5,⟨false,1,1,[.leaf],[.int .u8 0],.int .u8⟩),
 (9,⟨false,1,16,[.leaf],[.str []],.str⟩),
 (22,⟨false,1,24,[.sl .own [.leaf]],[.lst 0 []],.slc 9⟩)]
noncomputable def So:Code:=CE Tryd.f58
noncomputable def F0:List (Nat × FD):=[
 (58,.code So [.val,.val] [] [(4,none)] [(0,[0,1]),(1,[0,1]),(2,[0,1,5]),(3,[0,1,5,6]),(4,[0,1,5,6,7]),(5,[0,1,5,6,7]),(6,[0,1,5,6,7]),(7,[0,1,5,6,7]),(8,[0,1,5,7]),(9,[5]),(1000004,[5])])]
noncomputable def E:AX:=⟨fun t=>JH MU t,Gb F0,[]⟩
noncomputable def EH (n:Nat):FD:=match Gb F0 n with
 | some d=>d
 | none => .ext fun _=>none
noncomputable def Dn (n:Nat):List (Nat × List Nat):=match Gb F0 n with
 | some d=>d.keep
 | none=>[]
theorem tysOk:Bw Tryd.prog E:=Na (l:=MU) (fun _=>rfl) (by kernel_rfl)
theorem S8:Dv Tryd.prog E 58 (EH 58):=JY (c:=So) (modes:=(EH 58).ms) (outs:=(EH 58).os) (results:=(EH 58).rs) (keep:=(EH 58).keep) Tryd.func58 (by kernel_rfl) (by kernel_rfl) (by kernel_rfl)
theorem Ns:IF Tryd.prog E F0:=.cons S8 (.nil)
theorem fnOk:∀ f fd,E.fn f=some fd→Dv Tryd.prog E f fd:=ND (l:=F0) (fun _=>rfl) Ns
end Go.Proofs.YtokonabdnlckdaaDoor.DN
section
namespace Go.Proofs.YtokonabdnlckdaaDoor.DN
open Go Go.Desk
set_option linter.unusedVariables false
def f58.l0 (n:Nat):Nat→List UInt8→Int→Nat→List T→Int→Int→Option (Nat × List T)
 | 0,_,_,_,_,_,_=>none
 | m+1,s1,i2,n3,l4,i5,i6 =>
   br (decide (i6≤(((List.length s1):Nat):Int))) (
    br (i6==(((List.length s1):Nat):Int)) (
     gd (decide (((0:Int)≤i5)∧((i5≤i6)∧(i6≤(((List.length s1):Nat):Int))))) (
     gd (Nat.ble (n3+1) 2147483648) (
     let n7:Nat:=(n3+1)
     let l8:List T:=(l4++(Ai (reps 1 [(T.str [])]) 0 [(T.str (List.take ((Int.toNat i6) - (Int.toNat i5)) (List.drop (Int.toNat i5) s1)))]))
     let i9:Int:=(IntKind.i64.wrap (i6+(1:Int)))
     f58.l0 n m s1 i2 n7 l8 i9 (IntKind.i64.wrap (i6+(1:Int)))))) (
     gd (decide (((0:Int)≤i6)∧(i6<(((List.length s1):Nat):Int)))) (
     br ((EE s1 (Int.toNat i6))==i2) (
      gd (decide (((0:Int)≤i5)∧((i5≤i6)∧(i6≤(((List.length s1):Nat):Int))))) (
      gd (Nat.ble (n3+1) 2147483648) (
      let n10:Nat:=(n3+1)
      let l11:List T:=(l4++(Ai (reps 1 [(T.str [])]) 0 [(T.str (List.take ((Int.toNat i6) - (Int.toNat i5)) (List.drop (Int.toNat i5) s1)))]))
      let i12:Int:=(IntKind.i64.wrap (i6+(1:Int)))
      f58.l0 n m s1 i2 n10 l11 i12 (IntKind.i64.wrap (i6+(1:Int)))))) (
      f58.l0 n m s1 i2 n3 l4 i5 (IntKind.i64.wrap (i6+(1:Int))))))) (
    some (n3,l4))
def f58:Nat→List UInt8→Int→Option (Nat × List T)
 | 0,_,_=>none
 | n+1,s1,i2 =>
   bd (f58.l0 n n s1 i2 0 (reps 0 [(T.str [])]) (0:Int) (0:Int)) fun r3 =>
   let n4:Nat:=r3.1
   let l5:List T:=r3.2
   some (n4,l5)
def sg_si:Dz (List UInt8 × Int) where
 pk:=fun v=>[.str v.1,.int v.2]
 up:=fun ls=>match ls with
  | [.str a0,.int a1]=>some (a0,a1)
  | _=>none
 ok:=by
  intro ls v h
  split at h
  ·cases h;rfl
  ·cases h
def Si:Dz (Nat × List T) where
 pk:=fun v=>[.lst v.1 v.2]
 up:=fun ls=>match ls with
  | [.lst a0 a1]=>some (a0,a1)
  | _=>none
 ok:=by
  intro ls v h
  split at h
  ·cases h;rfl
  ·cases h
def Mg:Dz (List UInt8 × Int × Nat × List T × Int × Int) where
 pk:=fun v=>[.str v.1,.int v.2.1,.lst v.2.2.1 v.2.2.2.1,.int v.2.2.2.2.1,.int v.2.2.2.2.2]
 up:=fun ls=>match ls with
  | [.str a0,.int a1,.lst a2 a3,.int a4,.int a5]=>some (a0,a1,a2,a3,a4,a5)
  | _=>none
 ok:=by
  intro ls v h
  split at h
  ·cases h;rfl
  ·cases h
def f58.l0.P:AS:=⟨[(0,.val false [.leaf] [.str []] [] 0),(1,.val false [.leaf] [.int .u8 0] [] 0),(5,.val false [.sl .own [.leaf]] [.lst 0 []] [] 0),(6,.val false [.leaf] [.int .i64 0] [] 0),(7,.val false [.leaf] [.int .i64 0] [] 0)],0⟩
def f58.l0.A:Kr (Nat × List T):=.one (.exit 0) ⟨[(5,.val false [.sl .own [.leaf]] [.lst 0 []] [] 0)],0⟩ Si
def f58.l0.F (n m:Nat) (v:List UInt8 × Int × Nat × List T × Int × Int):=f58.l0 n m v.1 v.2.1 v.2.2.1 v.2.2.2.1 v.2.2.2.2.1 v.2.2.2.2.2
def f58.l0.W (n:Nat):Nd:=.of 64 f58.l0.P Mg f58.l0.A (f58.l0.F n n)
def f58.P:List Am:=[⟨.val,⟨false,[.leaf],[.str []]⟩⟩,⟨.val,⟨false,[.leaf],[.int .u8 0]⟩⟩]
def f58.A:DF (Nat × List T):=.one ⟨[⟨false,[.sl .own [.leaf]],[.lst 0 []]⟩],[none,none]⟩ Si
def f58.F (n:Nat) (v:List UInt8 × Int):=f58 n v.1 v.2
noncomputable def f58.O (n:Nat):FQ:=DH (E:=E) [] [f58.l0.W n] n
theorem f58.l0.ok (n:Nat):Fw (f58.O n) E (AN E n) n (Dn 58) (.loop (BP So 0)) :=
 OL f58.l0.P Mg f58.l0.A (f58.l0.F n) (HX _ _ n) (Iz (bs:=[]) (by kernel_rfl) .nil) (fun _=>rfl) (fun _ _=>by kernel_rfl) (fun _ _ _=>by kernel_rfl)
theorem f58.ok:∀ n v x,f58.F n v=some x→AN E n 58 (DQ f58.P (sg_si.pk v))=some (f58.A.enc x) :=
 OW (modes:=(EH 58).ms) (outs:=(EH 58).os) (results:=(EH 58).rs) f58.O (c:=So) (keep:=Dn 58) (by kernel_rfl) (fun n=>HX _ _ n) (fun n=>Iz (bs:=[BP So 0]) (by kernel_rfl) (.cons (f58.l0.ok n) .nil)) (fun _=>rfl) (fun _ _=>by kernel_rfl)
noncomputable def f58.w:EM E:=GJ 58 f58.P sg_si f58.A f58.F f58.ok
end Go.Proofs.YtokonabdnlckdaaDoor.DN
end
namespace Go.Proofs.YtokonabdnlckdaaDoor.DN
open Go Go.Desk Go.Shelf Go.RowKit Go.Lib Go.Sort
set_option linter.unusedVariables false
theorem Sm (i:Nat) (h:i<1000001):IntKind.i64.wrap ((i:Int)+(1:Int))=((i+1:Nat):Int):=by
 have e:((i:Int)+1) % 2 ^ 64=((i+1:Nat):Int):=by
  rw[Int.emod_eq_of_lt (by omega) (by omega)];omega
 simp only[IntKind.wrap,IntKind.bits,IntKind.signed,e]
 rw[if_neg]
 simp
 omega
theorem Lq (n:Nat) (s:List UInt8) (hs:s.length<1000000):∀ (m i:Nat) (acc:List (List UInt8)) (p:List UInt8),s.length+2≤m+i→i≤s.length→p.length≤i→acc.length≤i - p.length→(s.drop (i - p.length)).take p.length=p→(10:UInt8) ∉ p →
  f58.l0 n m s 10 acc.length (acc.map T.str) ((i - p.length:Nat):Int) (i:Int)=some ((acc++AZ 10 (p++s.drop i)).length,(acc++AZ 10 (p++s.drop i)).map T.str)
 | 0,i,acc,p,h,h1,h2,h3,h4,h5=>by omega
 | m+1,i,acc,p,h,h1,h2,h3,h4,h5=>by
   have hle:((i:Int)≤((s.length:Nat):Int)):=by omega
   have hpush:∀ q,(acc.map T.str)++Ai (reps 1 [T.str []]) 0 [T.str q]=(acc++[q]).map T.str:=fun q=>by simp[Ai,reps]
   have hcut:List.take ((Int.toNat (i:Int)) - (Int.toNat ((i - p.length:Nat):Int))) (List.drop (Int.toNat ((i - p.length:Nat):Int)) s)=p:=by
    simp only[zT]
    rw[show i - (i - p.length)=p.length by omega];exact h4
   have hb:Nat.ble (acc.length+1) 2147483648=true:=by rw[Nat.ble_eq];omega
   have hd:decide (((0:Int)≤((i - p.length:Nat):Int))∧((((i - p.length:Nat):Int)≤(i:Int))∧((i:Int)≤(((List.length s):Nat):Int))))=true:=by
    rw[decide_eq_true_iff];omega
   have hw:=Sm i (by omega)
   rw[f58.l0]
   rw[decide_eq_true hle]
   rcases Nat.lt_or_ge i s.length with hlt | hge
   ·have he:((i:Int)==((s.length:Nat):Int))=false:=by
     rw[beq_eq_false_iff_ne];omega
    have hd2:decide (((0:Int)≤(i:Int))∧((i:Int)<(((List.length s):Nat):Int)))=true:=by rw[decide_eq_true_iff];omega
    have hdrop:s.drop i=s[i]::s.drop (i+1):=drop_eq_getElem_cons hlt
    have hby:EE s (Int.toNat (i:Int))=(s[i].toNat:Int):=by
     simp only[zT,EE,List.getElem?_eq_getElem hlt]
    rw[he,hd2,hby,hd]
    simp only[br,gd,hcut,hpush,hb,hw]
    by_cases hc:s[i]=10
    ·have h10:(((s[i].toNat:Nat):Int)==10)=true:=by rw[hc];rfl
     rw[h10]
     have ih:=Lq n s hs m (i+1) (acc++[p]) [] (by omega) (by omega) (by simp) (by simp;omega) (by simp) (by simp)
     simp only[length_nil,Nat.sub_zero,nil_append,length_append,length_cons,Nat.zero_add] at ih
     rw[hdrop,hc,JF h5]
     have e9:acc.length+1+(AZ 10 (List.drop (i+1) s)).length=acc.length+((AZ 10 (List.drop (i+1) s)).length+1):=by omega
     simpa [append_assoc,e9] using ih
    ·have h10:(((s[i].toNat:Nat):Int)==10)=false:=by
      rw[beq_eq_false_iff_ne]
      intro e
      exact hc (UInt8.toNat_inj.1 (by show s[i].toNat=10;omega))
     rw[h10]
     have ih:=Lq n s hs m (i+1) acc (p++[s[i]]) (by omega) (by omega) (by simp;omega) (by simp;omega) (by
      rw[length_append,length_cons,length_nil,Nat.zero_add,show i+1 - (p.length+1)=i - p.length by omega,List.take_add_one,h4]
      rw[List.getElem?_drop,show i - p.length+p.length=i by omega,List.getElem?_eq_getElem hlt]
      rfl) (by
      simp only[mem_append,mem_singleton,not_or]
      exact ⟨h5,fun e=>hc e.symm⟩)
     rw[show i+1 - (p++[s[i]]).length=i - p.length by rw[length_append,length_cons,length_nil];omega] at ih
     rw[hdrop]
     simpa [append_assoc] using ih
   ·obtain rfl:i=s.length:=by omega
    have he:((s.length:Int)==((s.length:Nat):Int))=true:=by rw[beq_iff_eq]
    rw[he,hd]
    simp only[br,gd,hcut,hpush,hb,hw]
    rw[List.drop_length,append_nil,K0 h5]
    cases m with
    | zero=>omega
    | succ m =>
      rw[f58.l0]
      have:decide (((s.length+1:Nat):Int)≤((s.length:Nat):Int))=false:=by rw[decide_eq_false_iff_not];omega
      rw[this]
      simp only[br,length_append,length_cons,length_nil]
theorem PY (s:List UInt8) (hs:s.length<1000000):f58 (s.length+3) s 10=some ((AZ 10 s).length,(AZ 10 s).map T.str):=by
 rw[f58]
 have:=Lq (s.length+2) s hs (s.length+2) 0 [] [] (by omega) (by omega) (by simp) (by simp) (by simp) (by simp)
 simp only[length_nil,Nat.sub_zero,nil_append,drop_zero,map_nil] at this
 show bd (f58.l0 (s.length+2) (s.length+2) s 10 0 [] 0 0) _=_
 rw[show ((0:Nat):Int)=0 from rfl] at this
 rw[this]
 rfl
theorem O4 (w:World) (s last:ByteArray) (n:Nat) (Q:Nat→Nat→Nat→World→Prop)
  (hc:Calls Tryd.prog 58 #[.string s,.int .u8 10] w fun e w'=>∃ b off cap,e = .returned (.slice (some ⟨b,off,none⟩) (n+1) cap)∧n+1≤cap∧w'.cell? ⟨b,off+n,none⟩=some (.string last)∧Q b off cap w')
  (hQ:∀ b off cap w' q,Q b off cap w'→Q b off cap (w'.drewN q)) (hn:n<1000000) :
  Calls Tryd.prog 34 #[.string s] w fun e w'=>∃ b off cap,e = .returned (.tuple #[.slice (some ⟨b,off,none⟩) n cap,.string last])∧Q b off cap w' :=by
 have e0:IntKind.i64.wrap (((n+1:Nat):Int) - 1)=(n:Int):=by
  rw[show ((n+1:Nat):Int) - 1=(n:Int) by omega]
  have e:(n:Int) % 2 ^ 64=(n:Int):=Int.emod_eq_of_lt (by omega) (by omega)
  simp only[IntKind.wrap,IntKind.bits,IntKind.signed,e]
  rw[if_neg]
  simp
  omega
 have e1:(n:Int)<((n+1:Nat):Int):=by omega
 have e2:(0:Int)≤(n:Int):=by omega
 go_enter Tryd.func34,Tryd.ntmps34
 go_wp2_with (go_at_call 58;refine hc.mono ?_;rintro e w' ⟨b,off,cap,rfl,hcap,hcell,hq⟩)
 have e3:(n:Int)≤(cap:Int):=by omega
 go_quiet (fail)
 go_wp2
 go_ret2
 exact ⟨b,off,cap,rfl,hQ _ _ _ _ _ hq⟩
theorem SA (xs:Array Value) (w:World):(callFunc 34 xs).run Tryd.prog w = .ok (.enter 34 xs) w:=by
 have h1 : Tryd.f34.name ≠ "runtime.NumGoroutine" := by
  have h : (Tryd.f34.name == "runtime.NumGoroutine") = false := by kernel_rfl
  simpa using h
 obtain ⟨c,hc⟩:=Option.isSome_iff_exists.1 (show Tryd.f34.body.isSome=true by kernel_rfl)
 simp[callFunc,Tryd.func34,h1,hc]
theorem SE (xs:Array Value) (w:World):(callFunc 58 xs).run Tryd.prog w = .ok (.enter 58 xs) w:=by
 have h1 : Tryd.f58.name ≠ "runtime.NumGoroutine" := by
  have h : (Tryd.f58.name == "runtime.NumGoroutine") = false := by kernel_rfl
  simpa using h
 obtain ⟨c,hc⟩:=Option.isSome_iff_exists.1 (show Tryd.f58.body.isSome=true by kernel_rfl)
 simp[callFunc,Tryd.func58,h1,hc]
theorem linesOk {L:List String}:FnOk Tryd.prog L (fun _ l=>Et l) 34 :=
 Pu (g:=58) ⟨SA,SE,O4⟩ fun s hs=>⟨by have:=HG 10 s;omega,AN E (s.length+3),FnOk.any (Kx Tryd.checked.mixed tysOk fnOk (s.length+3) 58),f58.ok (s.length+3) (s,10) _ (PY s hs)⟩
end Go.Proofs.YtokonabdnlckdaaDoor.DN
end
noncomputable section
namespace Go.Proofs.YtokonabdnlckdaaDoor.D
open Go Go.Desk
def CE (f:Func):Code:=match f.body with
 | some c=>c
 | none => .skip
def MU:List (Nat × TD):=[
 (2,⟨false,1,8,[.leaf],[.int .i64 0],.int .i64⟩),
 (3,⟨false,1,8,[.leaf],[.int .i64 0],.int .i64⟩),
 (4,⟨false,1,1,[.leaf],[.bool false],.bool⟩),
 (5,⟨false,1,1,[.leaf],[.int .u8 0],.int .u8⟩),
 (9,⟨false,1,16,[.leaf],[.str []],.str⟩),
 (22,⟨false,1,24,[.sl .own [.leaf]],[.lst 0 []],.slc 9⟩),
 (32,⟨false,1,24,[.sl .own [.leaf]],[.lst 0 []],.slc 5⟩)]
def c4:Code:=CE Tryd.f4
def Sq:Code:=CE Tryd.f11
def Rr:Code:=CE Tryd.f12
def Sb:Code:=CE Tryd.f13
def Sg:Code:=CE Tryd.f14
def Sp:Code:=CE Tryd.f15
def ST:Code:=CE Tryd.f29
def TW:Code:=CE Tryd.f31
def SQ:Code:=CE Tryd.f35
def SR:Code:=CE Tryd.f36
def TH:Code:=CE Tryd.f38
def Ss:Code:=CE Tryd.f39
def TJ:Code:=CE Tryd.f55
def F0:List (Nat × FD):=[
 (4,.code c4 [.val] [] [(2,none)] [(0,[0]),(1,[0]),(2,[]),(3,[0]),(4,[0,3,4,5]),(5,[0,3,4,5,6,7,8]),(6,[]),(7,[0,3,4,5,6]),(8,[0,3,4,5,6,9]),(9,[0,3,4,5,6,9]),(10,[0,3,4,5,6,9,10]),(11,[0,3,4,5,6,9,10]),(12,[]),(13,[0,3,4,5,6,9,10]),(14,[]),(15,[0,3,4,5,6,9]),(16,[3,4,5,6,9,11,12,13]),(17,[]),(18,[6,9]),(19,[6,9,10]),(20,[9,10]),(21,[]),(22,[9,10]),(23,[]),(24,[])]),
 (11,.code Sq [.val,.val] [] [(4,none)] [(0,[0,1]),(1,[0,1]),(2,[]),(3,[0,1]),(4,[0,1,5]),(5,[0,1,5]),(6,[0,1,5]),(7,[]),(8,[]),(1000004,[4])]),
 (12,.code Rr [.val] [] [(2,none),(3,none),(4,none)] [(0,[0]),(1,[0]),(2,[]),(3,[0]),(4,[5]),(5,[5,7]),(6,[5,7,8]),(7,[5,7,8,9]),(8,[5,7,8,9,10]),(9,[5,7,8,9,10]),(10,[5,7,8,9,10]),(11,[5,7,8,9,10,11]),(12,[5,7,8,9,10,11]),(13,[5,7,8,9,10,11]),(14,[5,7,8,9,10,11]),(15,[5,7,8,9,10,11,12]),(16,[5,7,8,9,10,11,12]),(17,[5,7,8,9,10,12]),(18,[5,7,8,9,10]),(19,[7,9]),(1000008,[7,9]),(1000011,[5,7,8,9,10,11])]),
 (13,.code Sb [.val] [] [(2,none),(3,none),(4,none)] [(0,[0]),(1,[0]),(2,[]),(3,[0]),(4,[0,5]),(5,[0,5,6,7]),(6,[5,6,7,8]),(7,[5,6,7,9,10,11]),(8,[5,6,7,9,10,11,12,13,14]),(9,[5,7,9,10,11,12,13,14,15]),(10,[5,7]),(11,[5,7,9,10,13,15]),(12,[5,7,9,10,15]),(13,[5,6,7,8,9]),(1000006,[2,3,4])]),
 (14,.code Sg [.io,.val] [0] [(4,none)] [(0,[0,1]),(1,[0,1]),(2,[0,1,5]),(3,[0,1,5]),(4,[0,1,5]),(5,[0,1,5]),(6,[0,1]),(1000002,[0,1])]),
 (15,.code Sp [.val,.val] [] [(4,none)] [(0,[0,1]),(1,[0,1]),(2,[0,1,5]),(3,[0,1,5]),(4,[0,1,5]),(5,[]),(6,[0,1,5]),(7,[1]),(1000002,[1,4])]),
 (29,.code ST [.val,.val] [] [(4,none),(5,none)] [(0,[0,1]),(1,[0,1]),(2,[]),(3,[0,1]),(4,[0,1,6]),(5,[0,1,6]),(6,[0,1,6]),(7,[0]),(1000004,[0])]),
 (31,.code TW [.val] [] [(2,none)] [(0,[0]),(1,[0])]),
 (34,.sem [.val] (Et)),
 (35,.code SQ [.val,.val] [] [(4,none)] [(0,[0,1]),(1,[0,1]),(2,[0,1,5]),(3,[0,1,5]),(4,[0,1,5]),(5,[0]),(1000002,[0])]),
 (36,.code SR [.val] [] [(2,none)] [(0,[0]),(1,[0]),(2,[0,3]),(3,[0,3,4]),(4,[0,3,4]),(5,[0,3,4,5]),(6,[0,3,4,5]),(7,[0,3,4,5]),(8,[0,3,4]),(9,[0,3]),(10,[3]),(11,[3]),(1000003,[0,3])]),
 (37,.ext (Cw Mu)),
 (38,.code TH [.val] [] [(2,none)] [(0,[0]),(1,[0])]),
 (39,.code Ss [.val] [] [(2,none)] [(0,[0]),(1,[0]),(2,[]),(3,[0]),(4,[0,3]),(5,[0,3]),(6,[0,3]),(7,[3]),(1000004,[3])]),
 (55,.code TJ [.val,.val,.val] [] [(6,none)] [(0,[0,1,2]),(1,[0,1,2])]),
 (57,.ext (Cw D6))]
def E : AX := ⟨fun t => JH MU t, Gb F0, ["internal/bytealg.MaxLen", "internal/strconv.uint64pow10"]⟩
def EH (n:Nat):FD:=match Gb F0 n with
 | some d=>d
 | none => .ext fun _=>none
def Dn (n:Nat):List (Nat × List Nat):=match Gb F0 n with
 | some d=>d.keep
 | none=>[]
theorem tysOk:Bw Tryd.prog E:=Na (l:=MU) (fun _=>rfl) (by kernel_rfl)
abbrev FT (f:Nat):Prop:=Dv Tryd.prog E f (EH f)
theorem O8 {f : Nat} {fn : Func} (c : Code) (hf : Tryd.prog.funcs[f]? = some fn) (hn : (fn.name == "runtime.NumGoroutine") = false := by kernel_rfl) (hb : fn.body = some c := by kernel_rfl) (h : Oa E fn c (EH f).ms (EH f).os (EH f).rs = true := by kernel_rfl) (hd : EH f = .code c (EH f).ms (EH f).os (EH f).rs (EH f).keep := by kernel_rfl) : FT f := by unfold FT; rw [hd]; exact JY hf hn hb h
theorem Tp:FT 4:=O8 c4 Tryd.func4
theorem TU:FT 11:=O8 Sq Tryd.func11
theorem TF:FT 12:=O8 Rr Tryd.func12
theorem TI:FT 13:=O8 Sb Tryd.func13
theorem S4:FT 14:=O8 Sg Tryd.func14
theorem TC:FT 15:=O8 Sp Tryd.func15
theorem TO:FT 29:=O8 ST Tryd.func29
theorem Tc:FT 31:=O8 TW Tryd.func31
theorem TX:Dv Tryd.prog E 34 (.sem [.val] (Et)):=DN.linesOk
theorem TN:FT 35:=O8 SQ Tryd.func35
theorem TQ:FT 36:=O8 SR Tryd.func36
theorem Td:Dv Tryd.prog E 37 (.ext (Cw Mu)):=DS.ok37 (.head _)
theorem S6:FT 38:=O8 TH Tryd.func38
theorem TS:FT 39:=O8 Ss Tryd.func39
theorem TR:FT 55:=O8 TJ Tryd.func55
theorem TL:Dv Tryd.prog E 57 (.ext (Cw D6)):=DS.ok57 (.tail _ (.head _))
theorem Ns:IF Tryd.prog E F0:=.cons Tp (.cons TU (.cons TF (.cons TI (.cons S4 (.cons TC (.cons TO (.cons Tc (.cons TX (.cons TN (.cons TQ (.cons Td (.cons S6 (.cons TS (.cons TR (.cons TL (.nil))))))))))))))))
theorem fnOk:∀ f fd,E.fn f=some fd→Dv Tryd.prog E f fd:=ND (l:=F0) (fun _=>rfl) Ns
abbrev OV {V X:Type} (no:Nat) (P:List Am) (S:Dz V) (A:DF X) (F:Nat→V→Option X):Prop:=∀ n v x,F n v=some x→AN E n no (DQ P (S.pk v))=some (A.enc x)
theorem Ol {V X:Type} {no:Nat} {P:List Am} {S:Dz V} {A:DF X} {F:Nat→V→Option X} (c:Code) (O:Nat→FQ) (bs:List Code:=[]) (ha:∀ n,LN (O n) E (AN E n) n (Dn no) bs:=by intro _;exact .nil) (hf:E.fn no=some (.code c (EH no).ms (EH no).os (EH no).rs (Dn no)):=by kernel_rfl) (hO:∀ n,(O n).CfOk (AN E n):=by intro n;exact HX _ _ n) (hb:BD c=bs:=by kernel_rfl) (h0:∀ v,F 0 v=none:=by intro _;rfl) (hs:∀ n v,F (n+1) v=S1 E (O n) no (DQ P (S.pk v)) A.dec:=by intro _ _;kernel_rfl):OV no P S A F:=OW O hf hO (fun n=>Iz hb (ha n)) h0 hs
abbrev P2 (no:Nat) (c:Code) (i n:Nat) (O:FQ):Prop:=Fw O E (AN E n) n (Dn no) (.loop (BP c i))
theorem Qi {V X:Type} {no i:Nat} {c:Code} {O:Nat→FQ} (P:AS) (S:Dz V) (A:Kr X) (L:Nat→Nat→V→Option X) (bs:List Code:=[]) (ha:∀ n,LN (O n) E (AN E n) n (Dn no) bs:=by intro _;exact .nil) (hO:∀ n,(O n).CfOk (AN E n):=by intro n;exact HX _ _ n) (hb:BD (BP c i)=bs:=by kernel_rfl) (h0:∀ n v,L n 0 v=none:=by intro _ _;rfl)
  (hs:∀ n m v,L n (m+1) v=Dh E (O n) (Dn no) (BP c i) (PG P (S.pk v)) (fun ex σ'=>match ex with
    | .normal=>bd (KY P (Go.Desk.settle (A6 (Dn no) (BC (BP c i))) σ')) fun ls=>bd (S.up ls) (L n m)
    | .exit id=>A.dec (.exit id) (Go.Desk.settle (A6 (Dn no) (G9 (BP c i))) σ')
    | .ret=>A.dec .ret (Go.Desk.settle (A6 (Dn no) (G9 (BP c i))) σ')):=by intro _ _ _;kernel_rfl)
  (hW:∀ n (β:Type) (σ:AS) (k:Ex→AS→Option β),(O n).lp (RZ (BP c i)) σ k=bd (KY P σ) fun ls=>bd (S.up ls) fun v=>bd (L n n v) fun x=>A.out x k:=by intro _ _ _ _;kernel_rfl):∀ n,P2 no c i n (O n):=fun n=>OL P S A (L n) (hO n) (Iz hb (ha n)) (h0 n) (hs n) (hW n)
end Go.Proofs.YtokonabdnlckdaaDoor.D
end
noncomputable section
namespace Go.Proofs.YtokonabdnlckdaaDoor.D
open Go Go.Desk
abbrev Sy:=Nat × List T × Nat × List T × Int × Int × Int × Int
abbrev Tn:=Nat × List T × Nat × List T × Int × Int × Int
abbrev Tm:=Nat × List T × Int × Int × List UInt8
abbrev Tj:=Nat × List T × Nat × List T × Int
abbrev Tk:=Nat × List T × Nat × List T
abbrev Ry:=Nat × List T × Int × Bool
abbrev Tg:=Int × Nat × List T × Int
abbrev TZ:=Nat × List T × Int × Int
abbrev S2:Go.Desk.V:=⟨false,[.sl .own [.leaf]],[.lst 0 []]⟩
abbrev Tu:Go.Desk.V:=⟨false,[.sl .shr [.leaf]],[.lst 0 []]⟩
abbrev RY:Go.Desk.V:=⟨false,[.leaf],[.int .i64 0]⟩
abbrev SO:Go.Desk.V:=⟨false,[.leaf],[.bool false]⟩
abbrev S3:Go.Desk.V:=⟨false,[.leaf],[.str []]⟩
abbrev P3:Am:=⟨.val,RY⟩
abbrev Sw:Am:=⟨.val,S3⟩
abbrev TK:Am:=⟨.val,Tu⟩
abbrev QP:AA:=.val false [.sl .own [.leaf]] [.lst 0 []] [] 0
abbrev TV:AA:=.val false [.sl .shr [.leaf]] [.lst 0 []] [] 0
abbrev Bx:AA:=.val false [.leaf] [.int .i64 0] [] 0
abbrev QW:AA:=.val false [.leaf] [.str []] [] 0
set_option linter.unusedVariables false
def x34.w:EM E:=Ff.w 34 (by kernel_rfl)
def x57.w:EM E:=Eq.w 57 (by kernel_rfl)
def x37.w:EM E:=LU.w 37 (by kernel_rfl)
def f12.l1 (n:Nat):Nat→Nat→List T→Nat→List T→Int→Int→Int→Int→Option (Sy)
 | 0,_,_,_,_,_,_,_,_=>none
 | m+1,n1,l2,n3,l4,i5,i6,i7,i8 =>
   gd (decide ((0≤i7)∧(i7<(n1:Int)))) (
   gd (FB [.str] l2 (Int.toNat i7)) (
   br (decide (i8<(((List.length (Li l2 (Int.toNat i7))):Nat):Int))) (
    gd (decide ((0≤i7)∧(i7<(n1:Int)))) (
    gd (FB [.str] l2 (Int.toNat i7)) (
    gd (decide ((0≤i8)∧(i8<(((List.length (Li l2 (Int.toNat i7))):Nat):Int)))) (
    br ((EE (Li l2 (Int.toNat i7)) (Int.toNat i8)) != (32:Int)) (
     f12.l1 n m n1 l2 n3 l4 i5 i6 i7 (IntKind.i64.wrap (i8+(1:Int)))) (
     some (n1,l2,n3,l4,i5,i6,i7,i8)))))) (
    some (n1,l2,n3,l4,i5,i6,i7,i8))))
def f35.l0 (n:Nat):Nat→Int→List UInt8→Int→Option (Int)
 | 0,_,_,_=>none
 | m+1,i1,s2,i3 =>
   br (decide (i3<(((List.length s2):Nat):Int))) (
    gd (decide ((0≤i3)∧(i3<(((List.length s2):Nat):Int)))) (
    let i4:=(Int.tmod (IntKind.i64.wrap ((IntKind.i64.wrap ((IntKind.i64.wrap ((577:Int) * i1))+(IntKind.i64.wrap (EE s2 (Int.toNat i3)))))+(21:Int))) (65003:Int))
    f35.l0 n m i4 s2 (IntKind.i64.wrap (i3+(1:Int))))) (
    some i1)
def f35:Nat→Int→List UInt8→Option (Int)
 | 0,_,_=>none
 | n+1,i1,s2 =>
   bd (f35.l0 n n i1 s2 (0:Int)) fun r3 =>
   let i4:=r3
   some i4
def Kz:Dz (Int × List UInt8) where
 pk:=fun (a0,a1)=>[.int a0,.str a1]
 up:=fun ls=>match ls with
  | [.int a0,.str a1]=>some (a0,a1)
  | _=>none
def Gs:Dz (Int) where
 pk:=fun v=>[.int v]
 up:=fun ls=>match ls with
  | [.int a0]=>some a0
  | _=>none
def LW:Dz (Int × List UInt8 × Int) where
 pk:=fun (a0,a1,a2)=>[.int a0,.str a1,.int a2]
 up:=fun ls=>match ls with
  | [.int a0,.str a1,.int a2]=>some (a0,a1,a2)
  | _=>none
def f35.l0.P:AS:=⟨[(0,Bx),(1,QW),(5,Bx)],0⟩
def f35.l0.A:Kr (Int):=.one (.exit 0) ⟨[(0,Bx)],0⟩ Gs
def f35.l0.F (n m:Nat) (v:Int × List UInt8 × Int):=f35.l0 n m v.1 v.2.1 v.2.2
def f35.l0.W (n:Nat):Nd:=.of 32 f35.l0.P LW f35.l0.A (f35.l0.F n n)
def f35.P:List Am:=[P3,Sw]
def f35.A:DF (Int):=.one ⟨[RY],[none,none]⟩ Gs
def f35.F (n:Nat) (v:Int × List UInt8):=f35 n v.1 v.2
def f35.O (n:Nat):FQ:=DH (E:=E) [] [f35.l0.W n] n
theorem f35.l0.ok:∀ n,P2 35 SQ 0 n (f35.O n):=Qi f35.l0.P LW f35.l0.A f35.l0.F
theorem f35.ok:OV 35 f35.P Kz f35.A f35.F:=Ol SQ f35.O [BP SQ 0] (fun n=>(.cons (f35.l0.ok n) .nil))
def f35.w:EM E:=GJ 35 f35.P Kz f35.A f35.F f35.ok
def f36.l0 (n:Nat):Nat→Int→Nat→List T→Int→Option (Int × Nat × List T)
 | 0,_,_,_,_=>none
 | m+1,i1,n2,l3,i4 =>
   br ((n2:Int)==(0:Int)) (
    let i5:=(Int.tmod i4 (10:Int))
    br (decide (i5<(0:Int))) (
     let i6:=(IntKind.i64.wrap ((0:Int) - i5))
     gd (Nat.ble (1+n2) 2147483648) (
     let n7:=(1+n2)
     let l8:=((Ai (reps 1 [(T.int .u8 (0:Int))]) 0 [(T.int .u8 (IntKind.u8.wrap (IntKind.i64.wrap ((48:Int)+i6))))])++l3)
     f36.l0 n m i1 n7 l8 (IntKind.i64.wrap (Int.tdiv i4 (10:Int))))) (
     gd (Nat.ble (1+n2) 2147483648) (
     let n9:=(1+n2)
     let l10:=((Ai (reps 1 [(T.int .u8 (0:Int))]) 0 [(T.int .u8 (IntKind.u8.wrap (IntKind.i64.wrap ((48:Int)+i5))))])++l3)
     f36.l0 n m i1 n9 l10 (IntKind.i64.wrap (Int.tdiv i4 (10:Int)))))) (
    br (i4 != (0:Int)) (
     let i11:=(Int.tmod i4 (10:Int))
     br (decide (i11<(0:Int))) (
      let i12:=(IntKind.i64.wrap ((0:Int) - i11))
      gd (Nat.ble (1+n2) 2147483648) (
      let n13:=(1+n2)
      let l14:=((Ai (reps 1 [(T.int .u8 (0:Int))]) 0 [(T.int .u8 (IntKind.u8.wrap (IntKind.i64.wrap ((48:Int)+i12))))])++l3)
      f36.l0 n m i1 n13 l14 (IntKind.i64.wrap (Int.tdiv i4 (10:Int))))) (
      gd (Nat.ble (1+n2) 2147483648) (
      let n15:=(1+n2)
      let l16:=((Ai (reps 1 [(T.int .u8 (0:Int))]) 0 [(T.int .u8 (IntKind.u8.wrap (IntKind.i64.wrap ((48:Int)+i11))))])++l3)
      f36.l0 n m i1 n15 l16 (IntKind.i64.wrap (Int.tdiv i4 (10:Int)))))) (
     some (i1,n2,l3)))
def f36:Nat→Int→Option (List UInt8)
 | 0,_=>none
 | n+1,i1 =>
   bd (f36.l0 n n i1 0 (reps 0 [(T.int .u8 (0:Int))]) i1) fun r2 =>
   let i3:=r2.1
   let n4:=r2.2.1
   let l5:=r2.2.2
   br (decide (i3<(0:Int))) (
    gd (Nat.ble (1+n4) 2147483648) (
    let n6:=(1+n4)
    let l7:=((Ai (reps 1 [(T.int .u8 (0:Int))]) 0 [(T.int .u8 (45:Int))])++l5)
    bd ((Cb l7)) fun y8 =>
    some y8)) (
    bd ((Cb l5)) fun y9 =>
    some y9)
def Ki:Dz (List UInt8) where
 pk:=fun v=>[.str v]
 up:=fun ls=>match ls with
  | [.str a0]=>some a0
  | _=>none
def Qe:Dz (Tg) where
 pk:=fun (a0,a1,a2,a3)=>[.int a0,.lst a1 a2,.int a3]
 up:=fun ls=>match ls with
  | [.int a0,.lst a1 a2,.int a3]=>some (a0,a1,a2,a3)
  | _=>none
def Ra:Dz (Int × Nat × List T) where
 pk:=fun (a0,a1,a2)=>[.int a0,.lst a1 a2]
 up:=fun ls=>match ls with
  | [.int a0,.lst a1 a2]=>some (a0,a1,a2)
  | _=>none
def f36.l0.P:AS:=⟨[(0,Bx),(3,QP),(4,Bx)],0⟩
def f36.l0.A:Kr (Int × Nat × List T):=.one (.exit 0) ⟨[(0,Bx),(3,QP)],0⟩ Ra
def f36.l0.F (n m:Nat) (v:Tg):=let (a,b,c,d):=v;f36.l0 n m a b c d
def f36.l0.W (n:Nat):Nd:=.of 48 f36.l0.P Qe f36.l0.A (f36.l0.F n n)
def f36.P:List Am:=[P3]
def f36.A:DF (List UInt8):=.one ⟨[S3],[none]⟩ Ki
def f36.F (n:Nat) (v:Int):=f36 n v
def f36.O (n:Nat):FQ:=DH (E:=E) [] [f36.l0.W n] n
theorem f36.l0.ok:∀ n,P2 36 SR 0 n (f36.O n):=Qi f36.l0.P Qe f36.l0.A f36.l0.F
theorem f36.ok:OV 36 f36.P Gs f36.A f36.F:=Ol SR f36.O [BP SR 0] (fun n=>(.cons (f36.l0.ok n) .nil))
def f36.w:EM E:=GJ 36 f36.P Gs f36.A f36.F f36.ok
def f12.l0 (n:Nat):Nat→Nat→List T→Nat→List T→Int→Int→Int→Option (Nat × List T × Int)
 | 0,_,_,_,_,_,_,_=>none
 | m+1,n1,l2,n3,l4,i5,i6,i7 =>
   br (decide (i7<(n1:Int))) (
    bd (f12.l1 n n n1 l2 n3 l4 i5 i6 i7 (0:Int)) fun r8 =>
    let n9:=r8.1
    let l10:=r8.2.1
    let n11:=r8.2.2.1
    let l12:=r8.2.2.2.1
    let i13:=r8.2.2.2.2.1
    let i14:=r8.2.2.2.2.2.1
    let i15:=r8.2.2.2.2.2.2.1
    let i16:=r8.2.2.2.2.2.2.2
    gd (decide ((0≤i15)∧(i15<(n9:Int)))) (
    gd (FB [.str] l10 (Int.toNat i15)) (
    br (i16==(((List.length (Li l10 (Int.toNat i15))):Nat):Int)) (
     some (n11,l12,i14)) (
     gd (decide ((0≤i15)∧(i15<(n9:Int)))) (
     gd (FB [.str] l10 (Int.toNat i15)) (
     gd (decide (((0:Int)≤(IntKind.i64.wrap (i16+(1:Int))))∧(((IntKind.i64.wrap (i16+(1:Int)))≤(((List.length (Li l10 (Int.toNat i15))):Nat):Int))∧((((List.length (Li l10 (Int.toNat i15))):Nat):Int)≤(((List.length (Li l10 (Int.toNat i15))):Nat):Int))))) (
     let s17:List UInt8:=(List.take ((List.length (Li l10 (Int.toNat i15))) - (Int.toNat (IntKind.i64.wrap (i16+(1:Int))))) (List.drop (Int.toNat (IntKind.i64.wrap (i16+(1:Int)))) (Li l10 (Int.toNat i15))))
     bd (f35 n i13 s17) fun r18 =>
     let i19:=r18
     gd (decide ((0≤i15)∧(i15<(n9:Int)))) (
     gd (FB [.str] l10 (Int.toNat i15)) (
     gd (decide ((0≤(0:Int))∧((0≤i16)∧(i16≤(((List.length (Li l10 (Int.toNat i15))):Nat):Int))))) (
     bd (f36 n i19) fun r20 =>
     let s21:List UInt8:=r20
     br (!((List.take ((Int.toNat i16) - 0) (List.drop 0 (Li l10 (Int.toNat i15))))==s21)) (
      some (n11,l12,i14)) (
      gd (Nat.ble (n11+1) 2147483648) (
      let n22:=(n11+1)
      let l23:=(l12++(Ai (reps 1 [(T.str [])]) 0 [(T.str s17)]))
      gd (decide ((0≤i15)∧(i15<(n9:Int)))) (
      gd (FB [.str] l10 (Int.toNat i15)) (
      let i24:=(IntKind.i64.wrap (i14+(IntKind.i64.wrap ((((List.length (Li l10 (Int.toNat i15))):Nat):Int)+(1:Int)))))
      f12.l0 n m n9 l10 n22 l23 i19 i24 (IntKind.i64.wrap (i15+(1:Int))))))))))))))))) (
    some (n3,l4,i6))
def f12:Nat→List UInt8→Option (Ry)
 | 0,_=>none
 | n+1,s1 =>
   br (decide ((((List.length s1):Nat):Int)>(8000:Int))) (
    some (0,[],(0:Int),false)) (
    bd (Ff n s1) fun r2 =>
    let n3:=r2.1
    let l4:=r2.2.1
    let s5:List UInt8:=r2.2.2
    bd (f12.l0 n n n3 l4 0 (reps 0 [(T.str [])]) (0:Int) (0:Int) (0:Int)) fun r6 =>
    let n7:=r6.1
    let l8:=r6.2.1
    let i9:=r6.2.2
    some (n7,l8,i9,true))
def Nl:Dz (Ry) where
 pk:=fun (a0,a1,a2,a3)=>[.lst a0 a1,.int a2,.bool a3]
 up:=fun ls=>match ls with
  | [.lst a0 a1,.int a2,.bool a3]=>some (a0,a1,a2,a3)
  | _=>none
def H6:Dz (Sy) where
 pk:=fun (a0,a1,a2,a3,a4,a5,a6,a7)=>[.lst a0 a1,.lst a2 a3,.int a4,.int a5,.int a6,.int a7]
 up:=fun ls=>match ls with
  | [.lst a0 a1,.lst a2 a3,.int a4,.int a5,.int a6,.int a7]=>some (a0,a1,a2,a3,a4,a5,a6,a7)
  | _=>none
def NO:Dz (Tn) where
 pk:=fun (a0,a1,a2,a3,a4,a5,a6)=>[.lst a0 a1,.lst a2 a3,.int a4,.int a5,.int a6]
 up:=fun ls=>match ls with
  | [.lst a0 a1,.lst a2 a3,.int a4,.int a5,.int a6]=>some (a0,a1,a2,a3,a4,a5,a6)
  | _=>none
def Kw:Dz (Nat × List T × Int) where
 pk:=fun (a0,a1,a2)=>[.lst a0 a1,.int a2]
 up:=fun ls=>match ls with
  | [.lst a0 a1,.int a2]=>some (a0,a1,a2)
  | _=>none
def f12.l1.P:AS:=⟨[(5,QP),(7,QP),(8,Bx),(9,Bx),(10,Bx),(11,Bx)],0⟩
def f12.l1.A:Kr (Sy):=.one (.exit 2) ⟨[(5,QP),(7,QP),(8,Bx),(9,Bx),(10,Bx),(11,Bx)],0⟩ H6
def f12.l1.F (n m:Nat) (v:Sy):=let (a,b,c,d,e,f,g,h):=v;f12.l1 n m a b c d e f g h
def f12.l1.W (n:Nat):Nd:=.of 176 f12.l1.P H6 f12.l1.A (f12.l1.F n n)
def f12.l0.P:AS:=⟨[(5,QP),(7,QP),(8,Bx),(9,Bx),(10,Bx)],0⟩
def f12.l0.A:Kr (Nat × List T × Int):=.one (.exit 0) ⟨[(7,QP),(9,Bx)],0⟩ Kw
def f12.l0.F (n m:Nat) (v:Tn):=let (a,b,c,d,e,f,g):=v;f12.l0 n m a b c d e f g
def f12.l0.W (n:Nat):Nd:=.of 128 f12.l0.P NO f12.l0.A (f12.l0.F n n)
def f12.P:List Am:=[Sw]
def f12.A:DF (Ry):=.one ⟨[S2,RY,SO],[none]⟩ Nl
def f12.F (n:Nat) (v:List UInt8):=f12 n v
def f12.O (n:Nat):FQ:=DH (E:=E) [x34.w,f35.w,f36.w] [f12.l1.W n,f12.l0.W n] n
theorem f12.l1.ok:∀ n,P2 12 Rr 1 n (f12.O n):=Qi f12.l1.P H6 f12.l1.A f12.l1.F
theorem f12.l0.ok:∀ n,P2 12 Rr 0 n (f12.O n):=Qi f12.l0.P NO f12.l0.A f12.l0.F [BP Rr 1] (fun n=>(.cons (f12.l1.ok n) .nil))
theorem f12.ok:OV 12 f12.P Ki f12.A f12.F:=Ol Rr f12.O [BP Rr 0] (fun n=>(.cons (f12.l0.ok n) .nil))
def f12.w:EM E:=GJ 12 f12.P Ki f12.A f12.F f12.ok
def f55:Nat→Int→Int→Int→Option (Bool)
 | 0,_,_,_=>none
 | n+1,i1,i2,i3 =>
   br (decide (i2≤i1)) (
    some (decide (i1≤i3))) (
    some false)
def Pq:Dz (Int × Int × Int) where
 pk:=fun (a0,a1,a2)=>[.int a0,.int a1,.int a2]
 up:=fun ls=>match ls with
  | [.int a0,.int a1,.int a2]=>some (a0,a1,a2)
  | _=>none
def RI:Dz (Bool) where
 pk:=fun v=>[.bool v]
 up:=fun ls=>match ls with
  | [.bool a0]=>some a0
  | _=>none
def f55.P:List Am:=[P3,P3,P3]
def f55.A:DF (Bool):=.one ⟨[SO],[none,none,none]⟩ RI
def f55.F (n:Nat) (v:Int × Int × Int):=f55 n v.1 v.2.1 v.2.2
def f55.O (n:Nat):FQ:=DH (E:=E) [] [] n
theorem f55.ok:OV 55 f55.P Pq f55.A f55.F:=Ol TJ f55.O
def f55.w:EM E:=GJ 55 f55.P Pq f55.A f55.F f55.ok
def f29.l0 (n:Nat):Nat→Int→List UInt8→Int→Option (Int)
 | 0,_,_,_=>none
 | m+1,i1,s2,i3 =>
   br (decide (i3<(((List.length s2):Nat):Int))) (
    gd (decide ((0≤i3)∧(i3<(((List.length s2):Nat):Int)))) (
    let i4:=(Int.tmod (IntKind.i64.wrap ((IntKind.i64.wrap ((IntKind.i64.wrap ((577:Int) * i1))+(IntKind.i64.wrap (EE s2 (Int.toNat i3)))))+(21:Int))) (65003:Int))
    f29.l0 n m i4 s2 (IntKind.i64.wrap (i3+(1:Int))))) (
    some i1)
def f29:Nat→Int→List UInt8→Option (Int × Bool)
 | 0,_,_=>none
 | n+1,i1,s2 =>
   bd (f55 n i1 (0:Int) (65002:Int)) fun r3 =>
   let b4:=r3
   br (!b4) (
    some ((0:Int),false)) (
    bd (f29.l0 n n i1 s2 (0:Int)) fun r5 =>
    let i6:=r5
    some (i6,true))
def SZ:Dz (Int × Bool) where
 pk:=fun (a0,a1)=>[.int a0,.bool a1]
 up:=fun ls=>match ls with
  | [.int a0,.bool a1]=>some (a0,a1)
  | _=>none
def f29.l0.P:AS:=⟨[(0,Bx),(1,QW),(6,Bx)],0⟩
def f29.l0.A:Kr (Int):=.one (.exit 0) ⟨[(0,Bx)],0⟩ Gs
def f29.l0.F (n m:Nat) (v:Int × List UInt8 × Int):=f29.l0 n m v.1 v.2.1 v.2.2
def f29.l0.W (n:Nat):Nd:=.of 64 f29.l0.P LW f29.l0.A (f29.l0.F n n)
def f29.P:List Am:=[P3,Sw]
def f29.A:DF (Int × Bool):=.one ⟨[RY,SO],[none,none]⟩ SZ
def f29.F (n:Nat) (v:Int × List UInt8):=f29 n v.1 v.2
def f29.O (n:Nat):FQ:=DH (E:=E) [f55.w] [f29.l0.W n] n
theorem f29.l0.ok:∀ n,P2 29 ST 0 n (f29.O n):=Qi f29.l0.P LW f29.l0.A f29.l0.F
theorem f29.ok:OV 29 f29.P Kz f29.A f29.F:=Ol ST f29.O [BP ST 0] (fun n=>(.cons (f29.l0.ok n) .nil))
def f29.w:EM E:=GJ 29 f29.P Kz f29.A f29.F f29.ok
def f31:Nat→Int→Option (List UInt8)
 | 0,_=>none
 | n+1,i1 =>
   bd (Eq n i1 (10:Int)) fun r2 =>
   let s3:List UInt8:=r2
   some s3
def f31.P:List Am:=[P3]
def f31.A:DF (List UInt8):=.one ⟨[S3],[none]⟩ Ki
def f31.F (n:Nat) (v:Int):=f31 n v
def f31.O (n:Nat):FQ:=DH (E:=E) [x57.w] [] n
theorem f31.ok:OV 31 f31.P Gs f31.A f31.F:=Ol TW f31.O
def f31.w:EM E:=GJ 31 f31.P Gs f31.A f31.F f31.ok
def f38:Nat→Int→Option (Int)
 | 0,_=>none
 | n+1,i1 =>
   some i1
def f38.P:List Am:=[P3]
def f38.A:DF (Int):=.one ⟨[RY],[none]⟩ Gs
def f38.F (n:Nat) (v:Int):=f38 n v
def f38.O (n:Nat):FQ:=DH (E:=E) [] [] n
theorem f38.ok:OV 38 f38.P Gs f38.A f38.F:=Ol TH f38.O
def f38.w:EM E:=GJ 38 f38.P Gs f38.A f38.F f38.ok
def f13.l0 (n:Nat):Nat→Nat→List T→Int→Int→List UInt8→Option (Ry)
 | 0,_,_,_,_,_=>none
 | m+1,n1,l2,i3,i4,s5 =>
   bd (LU n s5 [(10:UInt8)]) fun r6 =>
   let s7:List UInt8:=r6.1
   let s8:List UInt8:=r6.2.1
   let b9:=r6.2.2
   bd (LU n s7 [(32:UInt8)]) fun r10 =>
   let s11:List UInt8:=r10.1
   let s12:List UInt8:=r10.2.1
   let b13:=r10.2.2
   bd (f29 n i3 s12) fun r14 =>
   let i15:=r14.1
   br (!b9) (
    some (n1,l2,i4,true)) (
    br (!b13) (
     some (n1,l2,i4,true)) (
     bd (f31 n i15) fun r17 =>
     let s18:List UInt8:=r17
     br (!(s11==s18)) (
      some (n1,l2,i4,true)) (
      gd (Nat.ble (n1+1) 2147483648) (
      let n19:=(n1+1)
      let l20:=(l2++(Ai (reps 1 [(T.str [])]) 0 [(T.str s12)]))
      bd (f38 n (((List.length s7):Nat):Int)) fun r21 =>
      let i22:=r21
      f13.l0 n m n19 l20 i15 (IntKind.i64.wrap (i4+(IntKind.i64.wrap (i22+(1:Int))))) s8))))
def f13:Nat→List UInt8→Option (Ry)
 | 0,_=>none
 | n+1,s1 =>
   br (decide ((((List.length s1):Nat):Int)>(8000:Int))) (
    some (0,[],(0:Int),false)) (
    bd (f13.l0 n n 0 [] (0:Int) (0:Int) s1) fun r2 =>
    let n3:=r2.1
    let l4:=r2.2.1
    let i5:=r2.2.2.1
    let b6:=r2.2.2.2
    some (n3,l4,i5,b6))
def ON:Dz (Tm) where
 pk:=fun (a0,a1,a2,a3,a4)=>[.lst a0 a1,.int a2,.int a3,.str a4]
 up:=fun ls=>match ls with
  | [.lst a0 a1,.int a2,.int a3,.str a4]=>some (a0,a1,a2,a3,a4)
  | _=>none
def f13.l0.P:AS:=⟨[(5,QP),(6,Bx),(7,Bx),(8,QW)],0⟩
def f13.l0.A:Kr (Ry):=.one .ret ⟨[(2,QP),(3,Bx),(4,.val false [.leaf] [.bool false] [] 0)],0⟩ Nl
def f13.l0.F (n m:Nat) (v:Tm):=let (a,b,c,d,e):=v;f13.l0 n m a b c d e
def f13.l0.W (n:Nat):Nd:=.of 96 f13.l0.P ON f13.l0.A (f13.l0.F n n)
def f13.P:List Am:=[Sw]
def f13.A:DF (Ry):=.one ⟨[S2,RY,SO],[none]⟩ Nl
def f13.F (n:Nat) (v:List UInt8):=f13 n v
def f13.O (n:Nat):FQ:=DH (E:=E) [x37.w,f29.w,f31.w,f38.w] [f13.l0.W n] n
theorem f13.l0.ok:∀ n,P2 13 Sb 0 n (f13.O n):=Qi f13.l0.P ON f13.l0.A f13.l0.F
theorem f13.ok:OV 13 f13.P Ki f13.A f13.F:=Ol Sb f13.O [BP Sb 0] (fun n=>(.cons (f13.l0.ok n) .nil))
def f13.w:EM E:=GJ 13 f13.P Ki f13.A f13.F f13.ok
def f11.l0 (n:Nat):Nat→Nat→List T→Nat→List T→Int→Option ((Bool) ⊕ (Unit))
 | 0,_,_,_,_,_=>none
 | m+1,n1,l2,n3,l4,i5 =>
   br (decide (i5<(n1:Int))) (
    gd ((decide ((0≤i5)∧(i5<(n1:Int))))&&(FB [.str] l2 (Int.toNat i5))) (
    gd ((decide ((0≤i5)∧(i5<(n3:Int))))&&(FB [.str] l4 (Int.toNat i5))) (
    br (!((Li l2 (Int.toNat i5))==(Li l4 (Int.toNat i5)))) (
     some (Sum.inl false)) (
     f11.l0 n m n1 l2 n3 l4 (IntKind.i64.wrap (i5+(1:Int))))))) (
    some (Sum.inr ()))
def f11:Nat→Nat→List T→Nat→List T→Option (Bool)
 | 0,_,_,_,_=>none
 | n+1,n1,l2,n3,l4 =>
   br ((n1:Int) != (n3:Int)) (
    some false) (
    bd (f11.l0 n n n1 l2 n3 l4 (0:Int)) fun r5 =>
    sm r5 (fun u6 =>
     let b7:=u6
     some b7) (fun u8 =>
     some true))
def RW:Dz (Tk) where
 pk:=fun (a0,a1,a2,a3)=>[.lst a0 a1,.lst a2 a3]
 up:=fun ls=>match ls with
  | [.lst a0 a1,.lst a2 a3]=>some (a0,a1,a2,a3)
  | _=>none
def Ps:Dz (Tj) where
 pk:=fun (a0,a1,a2,a3,a4)=>[.lst a0 a1,.lst a2 a3,.int a4]
 up:=fun ls=>match ls with
  | [.lst a0 a1,.lst a2 a3,.int a4]=>some (a0,a1,a2,a3,a4)
  | _=>none
def sg:Dz (Unit) where
 pk:=fun v=>[]
 up:=fun ls=>match ls with
  | []=>some ()
  | _=>none
def f11.l0.P:AS:=⟨[(0,TV),(1,TV),(5,Bx)],0⟩
def f11.l0.A:Kr ((Bool) ⊕ (Unit)):=.or (.one .ret ⟨[(4,.val false [.leaf] [.bool false] [] 0)],0⟩ RI) (.one (.exit 0) ⟨[(4,.dead)],0⟩ sg)
def f11.l0.F (n m:Nat) (v:Tj):=let (a,b,c,d,e):=v;f11.l0 n m a b c d e
def f11.l0.W (n:Nat):Nd:=.of 64 f11.l0.P Ps f11.l0.A (f11.l0.F n n)
def f11.P:List Am:=[TK,TK]
def f11.A:DF (Bool):=.one ⟨[SO],[none,none]⟩ RI
def f11.F (n:Nat) (v:Tk):=let (a,b,c,d):=v;f11 n a b c d
def f11.O (n:Nat):FQ:=DH (E:=E) [] [f11.l0.W n] n
theorem f11.l0.ok:∀ n,P2 11 Sq 0 n (f11.O n):=Qi f11.l0.P Ps f11.l0.A f11.l0.F
theorem f11.ok:OV 11 f11.P RW f11.A f11.F:=Ol Sq f11.O [BP Sq 0] (fun n=>(.cons (f11.l0.ok n) .nil))
def f11.w:EM E:=GJ 11 f11.P RW f11.A f11.F f11.ok
def f39.l0 (n:Nat):Nat→Int→List UInt8→Option (List UInt8)
 | 0,_,_=>none
 | m+1,i1,s2 =>
   br (decide (i1>(0:Int))) (
    bd ((Cb (Ai (reps 1 [(T.int .u8 (0:Int))]) 0 [(T.int .u8 (IntKind.u8.wrap (IntKind.i64.wrap ((48:Int)+(Int.tmod i1 (10:Int))))))]))) fun y3 =>
    gd (decide (((List.length y3)+(List.length s2))≤4611686018427387904)) (
    let s4:List UInt8:=(y3++s2)
    f39.l0 n m (IntKind.i64.wrap (Int.tdiv i1 (10:Int))) s4)) (
    some s2)
def f39:Nat→Int→Option (List UInt8)
 | 0,_=>none
 | n+1,i1 =>
   br (decide (i1≤(0:Int))) (
    some [(109:UInt8),(48:UInt8)]) (
    bd (f39.l0 n n i1 []) fun r2 =>
    let s3:List UInt8:=r2
    gd (decide ((1+(List.length s3))≤4611686018427387904)) (
    some ([(109:UInt8)]++s3)))
def f39.l0.P:AS:=⟨[(0,Bx),(3,QW)],0⟩
def f39.l0.A:Kr (List UInt8):=.one (.exit 0) ⟨[(3,QW)],0⟩ Ki
def f39.l0.F (n m:Nat) (v:Int × List UInt8):=f39.l0 n m v.1 v.2
def f39.l0.W (n:Nat):Nd:=.of 64 f39.l0.P Kz f39.l0.A (f39.l0.F n n)
def f39.P:List Am:=[P3]
def f39.A:DF (List UInt8):=.one ⟨[S3],[none]⟩ Ki
def f39.F (n:Nat) (v:Int):=f39 n v
def f39.O (n:Nat):FQ:=DH (E:=E) [] [f39.l0.W n] n
theorem f39.l0.ok:∀ n,P2 39 Ss 0 n (f39.O n):=Qi f39.l0.P Kz f39.l0.A f39.l0.F
theorem f39.ok:OV 39 f39.P Gs f39.A f39.F:=Ol Ss f39.O [BP Ss 0] (fun n=>(.cons (f39.l0.ok n) .nil))
def f39.w:EM E:=GJ 39 f39.P Gs f39.A f39.F f39.ok
def f14.l0 (n:Nat):Nat→Nat→List T→Int→Int→Option (Nat × List T × Int)
 | 0,_,_,_,_=>none
 | m+1,n1,l2,i3,i4 =>
   br (decide (i4<(n1:Int))) (
    bd (f39 n i3) fun r5 =>
    let s6:List UInt8:=r5
    gd (decide ((0≤i4)∧(i4<(n1:Int)))) (
    gd (Nat.ble ((Int.toNat i4)+1) (List.length l2)) (
    let l7:=(Ai l2 (Int.toNat i4) [(T.str s6)])
    let i8:=(IntKind.i64.wrap (i3+(1:Int)))
    f14.l0 n m n1 l7 i8 (IntKind.i64.wrap (i4+(1:Int)))))) (
    some (n1,l2,i3))
def f14:Nat→Nat→List T→Int→Option (Int × Nat × List T)
 | 0,_,_,_=>none
 | n+1,n1,l2,i3 =>
   bd (f14.l0 n n n1 l2 i3 (0:Int)) fun r4 =>
   let n5:=r4.1
   let l6:=r4.2.1
   let i7:=r4.2.2
   some (i7,n5,l6)
def ML:Dz (TZ) where
 pk:=fun (a0,a1,a2,a3)=>[.lst a0 a1,.int a2,.int a3]
 up:=fun ls=>match ls with
  | [.lst a0 a1,.int a2,.int a3]=>some (a0,a1,a2,a3)
  | _=>none
def f14.l0.P:AS:=⟨[(0,.val false [.sl .own [.leaf]] [.lst 0 []] [] 1),(1,Bx),(5,Bx)],0⟩
def f14.l0.A:Kr (Nat × List T × Int):=.one (.exit 0) ⟨[(0,.val false [.sl .own [.leaf]] [.lst 0 []] [] 1),(1,Bx)],0⟩ Kw
def f14.l0.F (n m:Nat) (v:TZ):=let (a,b,c,d):=v;f14.l0 n m a b c d
def f14.l0.W (n:Nat):Nd:=.of 32 f14.l0.P ML f14.l0.A (f14.l0.F n n)
def f14.P:List Am:=[⟨.io,S2⟩,P3]
def f14.A:DF (Int × Nat × List T):=.one ⟨[RY],[some S2,none]⟩ Ra
def f14.F (n:Nat) (v:Nat × List T × Int):=f14 n v.1 v.2.1 v.2.2
def f14.O (n:Nat):FQ:=DH (E:=E) [f39.w] [f14.l0.W n] n
theorem f14.l0.ok:∀ n,P2 14 Sg 0 n (f14.O n):=Qi f14.l0.P ML f14.l0.A f14.l0.F
theorem f14.ok:OV 14 f14.P Kw f14.A f14.F:=Ol Sg f14.O [BP Sg 0] (fun n=>(.cons (f14.l0.ok n) .nil))
def f14.w:EM E:=GJ 14 f14.P Kw f14.A f14.F f14.ok
def f15.l0 (n:Nat):Nat→Nat→List T→Int→Int→Option ((Int) ⊕ (Int))
 | 0,_,_,_,_=>none
 | m+1,n1,l2,i3,i4 =>
   br (decide (i4<(n1:Int))) (
    gd ((decide ((0≤i4)∧(i4<(n1:Int))))&&(FB [.str] l2 (Int.toNat i4))) (
    bd (f39 n i3) fun r5 =>
    let s6:List UInt8:=r5
    br (!((Li l2 (Int.toNat i4))==s6)) (
     some (Sum.inl (-1:Int))) (
     let i7:=(IntKind.i64.wrap (i3+(1:Int)))
     f15.l0 n m n1 l2 i7 (IntKind.i64.wrap (i4+(1:Int)))))) (
    some (Sum.inr i3))
def f15:Nat→Nat→List T→Int→Option (Int)
 | 0,_,_,_=>none
 | n+1,n1,l2,i3 =>
   bd (f15.l0 n n n1 l2 i3 (0:Int)) fun r4 =>
   sm r4 (fun u5 =>
    let i6:=u5
    some i6) (fun u7 =>
    let i8:=u7
    some i8)
def f15.l0.P:AS:=⟨[(0,TV),(1,Bx),(5,Bx)],0⟩
def f15.l0.A:Kr ((Int) ⊕ (Int)):=.or (.one .ret ⟨[(1,.dead),(4,Bx)],0⟩ Gs) (.one (.exit 0) ⟨[(1,Bx),(4,.dead)],0⟩ Gs)
def f15.l0.F (n m:Nat) (v:TZ):=let (a,b,c,d):=v;f15.l0 n m a b c d
def f15.l0.W (n:Nat):Nd:=.of 32 f15.l0.P ML f15.l0.A (f15.l0.F n n)
def f15.P:List Am:=[TK,P3]
def f15.A:DF (Int):=.one ⟨[RY],[none,none]⟩ Gs
def f15.F (n:Nat) (v:Nat × List T × Int):=f15 n v.1 v.2.1 v.2.2
def f15.O (n:Nat):FQ:=DH (E:=E) [f39.w] [f15.l0.W n] n
theorem f15.l0.ok:∀ n,P2 15 Sp 0 n (f15.O n):=Qi f15.l0.P ML f15.l0.A f15.l0.F
theorem f15.ok:OV 15 f15.P Kw f15.A f15.F:=Ol Sp f15.O [BP Sp 0] (fun n=>(.cons (f15.l0.ok n) .nil))
def f15.w:EM E:=GJ 15 f15.P Kw f15.A f15.F f15.ok
def f4:Nat→List UInt8→Option (Bool)
 | 0,_=>none
 | n+1,s1 =>
   br (decide ((((List.length s1):Nat):Int)>(1048576:Int))) (
    some true) (
    bd (f12 n s1) fun r2 =>
    let n3:=r2.1
    let l4:=r2.2.1
    let i5:=r2.2.2.1
    let b6:=r2.2.2.2
    bd (f13 n s1) fun r7 =>
    let n8:=r7.1
    let l9:=r7.2.1
    let i10:=r7.2.2.1
    let b11:=r7.2.2.2
    bd (f11 n n8 l9 n3 l4) fun r12 =>
    let b13:=r12
    br (!b13) (
     some false) (
     br (i10 != i5) (
      some false) (
      br (!(b11==b6)) (
       some false) (
       bd (f14 n n8 l9 (1:Int)) fun r14 =>
       let i15:=r14.1
       let n16:=r14.2.1
       let l17:=r14.2.2
       bd (f15 n n16 l17 (1:Int)) fun r18 =>
       let i19:=r18
       br (decide (i19<(0:Int))) (
        some false) (
        br (i19 != i15) (
         some false) (
         bd (f13 n s1) fun r20 =>
         let n21:=r20.1
         let l22:=r20.2.1
         let i23:=r20.2.2.1
         let b24:=r20.2.2.2
         bd (f11 n n21 l22 n3 l4) fun r25 =>
         let b26:=r25
         br (!b26) (
          some false) (
          br (i23 != i5) (
           some false) (
           br (!(b24==b6)) (
            some false) (
            bd (f15 n n16 l17 (1:Int)) fun r27 =>
            let i28:=r27
            br (decide (i28<(0:Int))) (
             some false) (
             br (i28 != i15) (
              some false) (
              some true)))))))))))
def f4.P:List Am:=[Sw]
def f4.A:DF (Bool):=.one ⟨[SO],[none]⟩ RI
def f4.F (n:Nat) (v:List UInt8):=f4 n v
def f4.O (n:Nat):FQ:=DH (E:=E) [f12.w,f13.w,f11.w,f14.w,f15.w] [] n
theorem f4.ok:OV 4 f4.P Ki f4.A f4.F:=Ol c4 f4.O
def f4.w:EM E:=GJ 4 f4.P Ki f4.A f4.F f4.ok
end Go.Proofs.YtokonabdnlckdaaDoor.D
end
section
namespace Go.Proofs.YtokonabdnlckdaaDoor.D
open Go Go.Desk
set_option linter.unusedVariables false
def BQ (l:List (List UInt8)):List T:=l.map T.str
theorem Oc {l:List (List UInt8)} {i:Nat} (h:i<l.length):FB [CK.str] (BQ l) i=true:=by
 simp[FB,BQ,h,P7]
theorem J8 {l:List (List UInt8)} {i:Nat}:Li (BQ l) i=l.getD i []:=by
 unfold Li BQ
 rw[List.getElem?_map]
 cases h:l[i]? <;>simp[List.getD,h]
theorem LM (l:List (List UInt8)) (s:List UInt8):BQ l++Ai (reps 1 [T.str []]) 0 [T.str s]=BQ (l++[s]):=by simp[BQ,Ai,reps]
theorem G4 {s:List UInt8} {i:Nat} (h:i<s.length):EE s i=(s[i].toNat:Int):=by simp[EE,h]
def Pw (c:Int) (b:UInt8):Int:=(577 * c+(b.toNat:Int)+21) % 65003
def C1 (c:Int) (s:List UInt8):Int:=s.foldl Pw c
theorem Cn (c:Int) (b:UInt8):0≤Pw c b∧Pw c b≤65002:=by unfold Pw;omega
theorem Gp:∀ (s:List UInt8) {c:Int},0≤c→c≤65002→0≤C1 c s∧C1 c s≤65002
 | [],c,h0,h1=>⟨h0,h1⟩
 | b::s,c,h0,h1=>Gp s (Cn c b).1 (Cn c b).2
theorem NG {c:Int} (h0:0≤c) (h1:c≤65002) (b:UInt8) :
  Int.tmod (IntKind.i64.wrap ((IntKind.i64.wrap ((IntKind.i64.wrap ((577:Int) * c))+(IntKind.i64.wrap ((b.toNat:Nat):Int))))+(21:Int))) (65003:Int)=Pw c b:=by
 have hb:b.toNat<256:=b.toNat_lt
 rw[DG (x:=577 * c) (by omega) (by omega),DG (x:=((b.toNat:Nat):Int)) (by omega) (by omega),DG (x:=577 * c+((b.toNat:Nat):Int)) (by omega) (by omega),DG (by omega) (by omega)]
 rw[Int.tmod_eq_emod_of_nonneg (by omega)]
 rfl
theorem Rd (n:Nat) (s:List UInt8) (hs:s.length<1000000):∀ (m i:Nat) (c:Int),s.length+1≤m+i→i≤s.length→0≤c→c≤65002→f35.l0 n m c s (i:Int)=some (C1 c (s.drop i))
 | 0,i,c,h1,h2,h3,h4=>by omega
 | m+1,i,c,h1,h2,h3,h4=>by
   rw[f35.l0]
   rcases Nat.lt_or_ge i s.length with h | h
   ·rw[Gx h,Ft h]
    simp only[br,gd,zT]
    rw[G4 h,NG h3 h4,Bc (by omega),Rd n s hs m (i+1) _ (by omega) (by omega) (Cn _ _).1 (Cn _ _).2,drop_eq_getElem_cons h]
    rfl
   ·rw[E4 h]
    simp only[br]
    rw[drop_eq_nil_of_le h]
    rfl
theorem Q0 (n:Nat) (s:List UInt8) (hs:s.length<1000000) (hn:s.length<n) {c:Int} (h0:0≤c) (h1:c≤65002):f35 (n+1) c s=some (C1 c s):=by
 rw[f35]
 have:=Rd n s hs n 0 c (by omega) (by omega) h0 h1
 rw[show ((0:Nat):Int)=0 from rfl,drop_zero] at this
 rw[this]
 rfl
theorem RV (n:Nat) (s:List UInt8) (hs:s.length<1000000):∀ (m i:Nat) (c:Int),s.length+1≤m+i→i≤s.length→0≤c→c≤65002→f29.l0 n m c s (i:Int)=some (C1 c (s.drop i))
 | 0,i,c,h1,h2,h3,h4=>by omega
 | m+1,i,c,h1,h2,h3,h4=>by
   rw[f29.l0]
   rcases Nat.lt_or_ge i s.length with h | h
   ·rw[Gx h,Ft h]
    simp only[br,gd,zT]
    rw[G4 h,NG h3 h4,Bc (by omega),RV n s hs m (i+1) _ (by omega) (by omega) (Cn _ _).1 (Cn _ _).2,drop_eq_getElem_cons h]
    rfl
   ·rw[E4 h]
    simp only[br]
    rw[drop_eq_nil_of_le h]
    rfl
theorem Qs (n:Nat) (s:List UInt8) (hs:s.length<1000000) (hn:s.length+1<n) {c:Int} (h0:0≤c) (h1:c≤65002):f29 (n+1) c s=some (C1 c s,true):=by
 obtain ⟨n,rfl⟩:∃ k,n=k+1:=⟨n - 1,by omega⟩
 rw[f29]
 have hw:f55 (n+1) c 0 65002=some true:=by
  rw[f55]
  rw[decide_eq_true h0]
  simp only[br]
  rw[decide_eq_true h1]
 rw[hw]
 have:=RV (n+1) s hs (n+1) 0 c (by omega) (by omega) h0 h1
 rw[show ((0:Nat):Int)=0 from rfl,drop_zero] at this
 simp only[bd,br,Bool.not_true,this]
theorem Sv (n:Nat) {c:Int} (h0 : -9223372036854775808≤c) (h1:c≤9223372036854775807):f31 (n+2) c=some (Lib.itoa c):=by
 rw[f31]
 simp only[Eq]
 rw[if_pos ⟨trivial,h0,h1⟩]
 rfl
def Rx (l:List UInt8):List T:=l.map fun b=>T.int .u8 (b.toNat:Int)
theorem Gt:∀ l,Cb (Rx l)=some l
 | []=>rfl
 | b::l=>by
   show Cb (T.int .u8 (b.toNat:Int)::Rx l)=_
   rw[Cb,Gt l]
   simp
theorem Ti (u:Nat):IntKind.u8.wrap (IntKind.i64.wrap ((48:Int)+Int.tmod (u:Int) 10))=(((UInt8.ofNat (48+u % 10)).toNat:Nat):Int):=by
 have h:Int.tmod (u:Int) 10=((u % 10:Nat):Int):=by rw[Int.tmod_eq_emod_of_nonneg (by omega)];omega
 have hlt:u % 10<10:=Nat.mod_lt _ (by omega)
 rw[h,DG (by omega) (by omega)]
 generalize u % 10=d at hlt
 have hd:d=0∨d=1∨d=2∨d=3∨d=4∨d=5∨d=6∨d=7∨d=8∨d=9:=by omega
 rcases hd with rfl | rfl | rfl | rfl | rfl | rfl | rfl | rfl | rfl | rfl <;>rfl
def Np (u:Nat) (acc:List UInt8):List UInt8:=if u=0∧acc≠[] then acc else Lib.decDigits u++acc
theorem K1 {u:Nat} {acc:List UInt8} (h:¬ (u=0∧acc≠[])):Np (u / 10) (UInt8.ofNat (48+u % 10)::acc)=Np u acc:=by
 unfold Np
 rw[if_neg h]
 conv=>rhs;rw[Lib.decDigits]
 by_cases hu:u<10
 ·rw[if_pos ⟨by omega,by simp⟩,dif_pos hu,Nat.mod_eq_of_lt hu];rfl
 ·rw[if_neg (by simp;omega),dif_neg hu,append_assoc];rfl
theorem II (n:Nat) (i1:Int):∀ (m k u:Nat) (acc:List UInt8),u<10 ^ k→(if acc=[] then 1 else 0)+k+1≤m→acc.length+k≤100→u<9223372036854775807 →
  f36.l0 n m i1 acc.length (Rx acc) (u:Int)=some (i1,(Np u acc).length,Rx (Np u acc))
 | 0,k,u,acc,h1,h2,h3,h4=>by split at h2 <;>omega
 | m+1,k,u,acc,h1,h2,h3,h4=>by
   have hk:u / 10<10 ^ (k - 1):=by
    cases k with
    | zero=>simp at h1;subst h1;simp
    | succ k =>
      rw[Nat.pow_succ] at h1
      simp only[Nat.add_sub_cancel]
      omega
   have hq:IntKind.i64.wrap (Int.tdiv (u:Int) 10)=((u / 10:Nat):Int):=by
    rw[Int.tdiv_eq_ediv_of_nonneg (by omega),DG (by omega) (by omega)];omega
   have hneg:decide (Int.tmod (u:Int) 10<0)=false:=by
    rw[Int.tmod_eq_emod_of_nonneg (by omega),decide_eq_false_iff_not];omega
   have hb:Nat.ble (1+acc.length) 2147483648=true:=by rw[Nat.ble_eq];omega
   have hpush:(Ai (reps 1 [(T.int IntKind.u8 (0:Int))]) 0 [(T.int IntKind.u8 (IntKind.u8.wrap (IntKind.i64.wrap ((48:Int)+Int.tmod (u:Int) 10))))])++Rx acc=Rx (UInt8.ofNat (48+u % 10)::acc):=by
    rw[Ti];rfl
   have hlen:1+acc.length=(UInt8.ofNat (48+u % 10)::acc).length:=by simp;omega
   rw[f36.l0]
   by_cases ha:acc=[]
   ·subst ha
    have:((([]:List UInt8).length:Nat):Int)==0:=by rfl
    rw[show (((([]:List UInt8).length:Nat):Int)==0)=true from rfl]
    simp only[br,gd,hneg,hb,hpush,hq]
    rw[hlen,II n i1 m (k - 1) (u / 10) _ hk (by simp at h2 ⊢;omega) (by simp at h3 ⊢;omega) (by omega),K1 (by simp)]
   ·have hz:(((acc.length:Nat):Int)==0)=false:=by
     rw[beq_eq_false_iff_ne]
     have:acc.length≠0:=fun e=>ha (length_eq_zero_iff.1 e)
     omega
    rw[hz]
    rw[if_neg ha] at h2
    by_cases hu:u=0
    ·subst hu
     rw[show (((0:Nat):Int) != 0)=false from rfl]
     simp only[br]
     unfold Np
     rw[if_pos ⟨rfl,ha⟩]
    ·have hu':((u:Int) != 0)=true:=by rw[bne_iff_ne];omega
     have hk1:1≤k:=by
      cases k with
      | zero=>simp at h1;omega
      | succ k=>omega
     rw[hu']
     simp only[br,gd,hneg,hb,hpush,hq]
     rw[hlen,II n i1 m (k - 1) (u / 10) _ hk (by simp;omega) (by simp;omega) (by omega),K1 (by simp[hu])]
theorem Se (n:Nat) (hn:30≤n) {c:Int} (h0:0≤c) (h1:c≤1000000000000000000):f36 (n+1) c=some (Lib.itoa c):=by
 obtain ⟨u,rfl⟩:=Int.eq_ofNat_of_zero_le h0
 rw[f36]
 have:=II n (u:Int) n 19 u [] (Nat.lt_of_lt_of_le (show u<10000000000000000000 by omega) (by decide)) (by simp;omega) (by simp) (by omega)
 rw[show (reps 0 [(T.int IntKind.u8 (0:Int))])=Rx [] from rfl]
 rw[length_nil] at this
 rw[this]
 simp only[bd]
 rw[show decide ((u:Int)<0)=false by rw[decide_eq_false_iff_not];omega]
 simp only[br]
 rw[Gt]
 simp only[Np,Lib.itoa]
 rw[if_neg (by simp),if_neg (by omega),append_nil,zT]
def tw (c:UInt8) (s:List UInt8):Nat:=(s.takeWhile (· != c)).length
theorem QU (c:UInt8) (s:List UInt8):tw c s≤s.length:=(List.takeWhile_sublist _).length_le
theorem GF (c b:UInt8) (s:List UInt8):tw c (b::s)=if b=c then 0 else tw c s+1:=by
 unfold tw
 rw[List.takeWhile_cons]
 by_cases h:b=c
 ·subst h;simp
 ·have:(b != c)=true:=by simpa using h
  rw[this,if_neg h];rfl
theorem Ks (c:UInt8):∀ s:List UInt8,Lib.index s [c]=if tw c s<s.length then ((tw c s:Nat):Int) else -1
 | []=>rfl
 | b::s=>by
   rw[Lib.index,GF,length_cons]
   by_cases h:b=c
   ·subst h
    rw[if_pos (by simp),if_pos rfl,if_pos (by omega)];rfl
   ·have h':¬ ([c].isPrefixOf (b::s)=true):=by
     simp
     exact fun e=>h e.symm
    rw[if_neg h',if_neg h,Ks c s]
    by_cases h2:tw c s<s.length
    ·rw[if_pos h2,if_pos (show tw c s+1<s.length+1 by omega)]
     have:((((tw c s:Nat):Int)) == -1)=false:=by rw[beq_eq_false_iff_ne];omega
     simp[this]
    ·rw[if_neg h2,if_neg (show ¬ (tw c s+1<s.length+1) by omega)];rfl
theorem LY (c:UInt8) (s:List UInt8):Lib.cut s [c]=if tw c s<s.length then (s.take (tw c s),s.drop (tw c s+1),true) else (s,[],false):=by
 unfold Lib.cut
 rw[Ks]
 by_cases h:tw c s<s.length
 ·rw[if_pos h,if_pos h,if_pos (by omega)]
  simp
 ·rw[if_neg h,if_neg h,if_neg (by omega)]
theorem FZ (c:UInt8):∀ s:List UInt8,AZ c s=if tw c s<s.length then s.take (tw c s)::AZ c (s.drop (tw c s+1)) else [s]
 | []=>rfl
 | b::s=>by
   rw[GF,length_cons]
   conv=>lhs;unfold AZ
   by_cases h:b=c
   ·subst h
    rw[beq_self_eq_true,if_pos rfl,if_pos (by omega)];rfl
   ·have h':(b==c)=false:=by simpa using h
    rw[h',if_neg h,FZ c s]
    by_cases h2:tw c s<s.length
    ·rw[if_pos h2,if_pos (by omega)];rfl
    ·rw[if_neg h2,if_neg (by omega)]
theorem Oq (c:UInt8) (s:List UInt8):∀ p∈AZ c s,p.length≤s.length:=by
 generalize hk:s.length=k
 induction k using Nat.strongRecOn generalizing s with
 | _ k ih =>
   intro p hp
   rw[FZ] at hp
   split at hp
   ·rename_i h
    rcases mem_cons.1 hp with rfl | hp
    ·simp;omega
    ·have:=ih (s.drop (tw c s+1)).length (by simp;omega) _ rfl p hp
     simp at this;omega
   ·simp at hp;subst hp;omega
theorem Kl (m:UInt8):∀ s,(AZ m s).length≤s.length+1
 | []=>by simp[AZ]
 | c::r=>by
   have:=Kl m r
   unfold AZ
   cases c==m with
   | true=>simp;omega
   | false =>
     cases h:AZ m r with
     | nil=>simp
     | cons p ps=>rw[h] at this;simp at this ⊢;omega
def SL (n k:Nat):List UInt8:=(f39 n (k:Int)).getD []
theorem LG (n:Nat):∀ (m j k:Nat) (s:List UInt8),k<10 ^ j→j+1≤m→s.length+j≤100→k<9223372036854775807→∃ t,f39.l0 n m (k:Int) s=some t∧t.length≤s.length+j
 | 0,j,k,s,h1,h2,h3,h4=>by omega
 | m+1,j,k,s,h1,h2,h3,h4=>by
   rw[f39.l0]
   by_cases hk:k=0
   ·subst hk
    rw[show decide (((0:Nat):Int)>0)=false from rfl]
    exact ⟨s,rfl,by omega⟩
   ·rw[show decide ((k:Int)>0)=true by rw[decide_eq_true_iff];omega]
    have hj:1≤j:=by
     cases j with
     | zero=>simp at h1;omega
     | succ j=>omega
    have hq:IntKind.i64.wrap (Int.tdiv (k:Int) 10)=((k / 10:Nat):Int):=by
     rw[Int.tdiv_eq_ediv_of_nonneg (by omega),DG (by omega) (by omega)];omega
    have hpush:Cb (Ai (reps 1 [(T.int IntKind.u8 (0:Int))]) 0 [(T.int IntKind.u8 (IntKind.u8.wrap (IntKind.i64.wrap ((48:Int)+Int.tmod (k:Int) 10))))])=some [UInt8.ofNat (48+k % 10)]:=by
     rw[Ti];exact Gt [UInt8.ofNat (48+k % 10)]
    have hk10:k / 10<10 ^ (j - 1):=by
     cases j with
     | zero=>omega
     | succ j =>
       rw[Nat.pow_succ] at h1
       simp only[Nat.add_sub_cancel]
       omega
    obtain ⟨t,ht,hl⟩:=LG n m (j - 1) (k / 10) ([UInt8.ofNat (48+k % 10)]++s) hk10 (by omega) (by simp;omega) (by omega)
    simp only[br,hpush,bd,hq]
    rw[show decide (([UInt8.ofNat (48+k % 10)].length+s.length)≤4611686018427387904)=true by rw[decide_eq_true_iff];simp;omega]
    exact ⟨t,by simpa only[gd] using ht,by simp at hl;omega⟩
theorem QQ (n:Nat) (hn:30≤n) (k:Nat) (hk:k<1000000000):f39 n (k:Int)=some (SL n k):=by
 obtain ⟨n,rfl⟩:∃ j,n=j+1:=⟨n - 1,by omega⟩
 have:∃ t,f39 (n+1) (k:Int)=some t:=by
  rw[f39]
  by_cases h:k=0
  ·subst h;exact ⟨_,rfl⟩
  ·rw[show decide ((k:Int)≤0)=false by rw[decide_eq_false_iff_not];omega]
   obtain ⟨t,ht,hl⟩:=LG n n 9 k [] (Nat.lt_of_lt_of_le hk (by decide)) (by omega) (by simp) (by omega)
   simp only[br,ht,bd]
   rw[show decide (1+t.length≤4611686018427387904)=true by rw[decide_eq_true_iff];simp at hl;omega]
   exact ⟨_,rfl⟩
 obtain ⟨t,ht⟩:=this
 unfold SL
 rw[ht];rfl
def Cp (n j k:Nat):List (List UInt8):=(List.range k).map fun t=>SL n (j+t)
theorem Pr (l:List (List UInt8)) (i:Nat) (s:List UInt8):Ai (BQ l) i [T.str s]=BQ (l.set i s):=by
 simp[BQ,Ai,List.map_set]
theorem K8 (n:Nat) (hn:30≤n) (L:Nat) (hL:L<100000000):∀ (m i:Nat) (l:List (List UInt8)),L+1≤m+i→i≤L→l.length=L→l.take i=Cp n 1 i →
  f14.l0 n m L (BQ l) ((i+1:Nat):Int) (i:Int)=some (L,BQ (Cp n 1 L),((L+1:Nat):Int))
 | 0,i,l,h1,h2,h3,h4=>by omega
 | m+1,i,l,h1,h2,h3,h4=>by
   rw[f14.l0]
   rcases Nat.lt_or_ge i L with h | h
   ·rw[Gx h,Ft h,QQ n hn (i+1) (by omega)]
    simp only[br,bd,gd,zT]
    rw[show Nat.ble (i+1) (BQ l).length=true by rw[Nat.ble_eq];simp[BQ];omega]
    simp only[Pr]
    rw[Bc (by omega),Bc (by omega)]
    refine K8 n hn L hL m (i+1) _ (by omega) (by omega) (by simpa using h3) ?_
    rw[List.take_set,List.take_add_one,h4]
    rw[List.getElem?_eq_getElem (by omega)]
    have hm:(Cp n 1 i).length=i:=by simp[Cp]
    rw[Option.toList_some,List.set_append_right _ _ (by omega),hm,Nat.sub_self]
    simp only[List.set_cons_zero]
    unfold Cp
    rw[List.range_succ,map_append]
    show _++[SL n (i+1)]=_++[SL n (1+i)]
    rw[Nat.add_comm 1 i]
   ·rw[E4 h]
    obtain rfl:i=L:=by omega
    simp only[br]
    rw[← h4,← h3,take_length]
theorem LL (n:Nat) (hn:30≤n) (L:Nat) (hL:L<100000000):∀ (m i:Nat),L+1≤m+i→i≤L →
  f15.l0 n m L (BQ (Cp n 1 L)) ((i+1:Nat):Int) (i:Int)=some (Sum.inr ((L+1:Nat):Int))
 | 0,i,h1,h2=>by omega
 | m+1,i,h1,h2=>by
   rw[f15.l0]
   rcases Nat.lt_or_ge i L with h | h
   ·have hl:(Cp n 1 L).length=L:=by simp[Cp]
    rw[Gx h,Ft h,QQ n hn (i+1) (by omega),zT,Oc (by omega),J8]
    have hg:(Cp n 1 L).getD i []=SL n (i+1):=by
     simp[Cp,List.getD,h,Nat.add_comm 1 i]
    rw[hg]
    simp only[br,bd,gd,Bool.and_true,beq_self_eq_true,Bool.not_true]
    rw[Bc (by omega),Bc (by omega)]
    exact LL n hn L hL m (i+1) (by omega) (by omega)
   ·rw[E4 h]
    obtain rfl:i=L:=by omega
    rfl
theorem R5 (n:Nat) (l:List (List UInt8)) (h:l.length<n) (hn:30≤n) (hL:l.length<100000000):f14 (n+1) l.length (BQ l) 1=some (((l.length+1:Nat):Int),l.length,BQ (Cp n 1 l.length)):=by
 rw[f14]
 have:=K8 n hn l.length hL n 0 l (by omega) (by omega) rfl rfl
 rw[show (((0+1:Nat)):Int)=1 from rfl,show ((0:Nat):Int)=0 from rfl] at this
 rw[this]
 rfl
theorem R2 (n L:Nat) (h:L<n) (hn:30≤n) (hL:L<100000000):f15 (n+1) L (BQ (Cp n 1 L)) 1=some ((L+1:Nat):Int):=by
 rw[f15]
 have:=LL n hn L hL n 0 (by omega) (by omega)
 rw[show (((0+1:Nat)):Int)=1 from rfl,show ((0:Nat):Int)=0 from rfl] at this
 rw[this]
 rfl
theorem OP (n:Nat) (l:List (List UInt8)) (hL:l.length<100000000):∀ (m i:Nat),l.length+1≤m+i→i≤l.length→f11.l0 n m l.length (BQ l) l.length (BQ l) (i:Int)=some (Sum.inr ())
 | 0,i,h1,h2=>by omega
 | m+1,i,h1,h2=>by
   rw[f11.l0]
   rcases Nat.lt_or_ge i l.length with h | h
   ·rw[Gx h,Ft h,zT,Oc h]
    simp only[br,gd,Bool.and_true,beq_self_eq_true,Bool.not_true]
    rw[Bc (by omega)]
    exact OP n l hL m (i+1) (by omega) (by omega)
   ·rw[E4 h]
    rfl
theorem TP (n:Nat) (l:List (List UInt8)) (h:l.length<n) (hL:l.length<100000000):f11 (n+1) l.length (BQ l) l.length (BQ l)=some true:=by
 rw[f11]
 have:=OP n l hL n 0 (by omega) (by omega)
 rw[show ((0:Nat):Int)=0 from rfl] at this
 rw[show ((((l.length:Nat):Int)) != ((l.length:Nat):Int))=false by simp,this]
 rfl
theorem RS {c:UInt8}:∀ {s:List UInt8} (h:tw c s<s.length),s[tw c s]=c
 | [],h=>by simp at h
 | b::s,h=>by
   by_cases hb:b=c
   ·have e:tw c (b::s)=0:=by rw[GF,if_pos hb]
    simp only[e,List.getElem_cons_zero];exact hb
   ·have e:tw c (b::s)=tw c s+1:=by rw[GF,if_neg hb]
    simp only[e,List.getElem_cons_succ]
    exact RS (by rw[e] at h;simpa using h)
theorem Ko {c:UInt8}:∀ {s:List UInt8} {k:Nat} (h:k<tw c s) (hl:k<s.length),s[k]≠c
 | [],k,h,hl=>by simp at hl
 | b::s,k,h,hl=>by
   by_cases hb:b=c
   ·rw[GF,if_pos hb] at h;omega
   ·rw[GF,if_neg hb] at h
    cases k with
    | zero=>simpa using hb
    | succ k=>simpa using Ko (s:=s) (k:=k) (by omega) (by simpa using hl)
def FO:List (List UInt8)→Int→List (List UInt8) × Int
 | [],_=>([],0)
 | p::ps,c=>if tw 32 p<p.length∧p.take (tw 32 p)=Lib.itoa (C1 c (p.drop (tw 32 p+1))) then
    (p.drop (tw 32 p+1)::(FO ps (C1 c (p.drop (tw 32 p+1)))).1,(p.length:Int)+1+(FO ps (C1 c (p.drop (tw 32 p+1)))).2) else ([],0)
theorem Mo:∀ (ps:List (List UInt8)) (c:Int),(FO ps c).1.length≤ps.length
 | [],c=>by simp[FO]
 | p::ps,c=>by
   rw[FO]
   split
   ·have:=Mo ps (C1 c (p.drop (tw 32 p+1)))
    simp;omega
   ·simp
theorem Pt (n:Nat) (ps:List (List UInt8)) (i:Nat) (p:List UInt8) (hi:i<ps.length) (hp:ps[i]=p) (hl:p.length<1000000) (n3:Nat) (l4:List T) (i5 i6:Int):∀ (m k:Nat),p.length+1≤m+k→k≤tw 32 p →
  f12.l1 n m ps.length (BQ ps) n3 l4 i5 i6 (i:Int) (k:Int)=some (ps.length,BQ ps,n3,l4,i5,i6,(i:Int),((tw 32 p:Nat):Int))
 | 0,k,h1,h2=>by have:=QU 32 p;omega
 | m+1,k,h1,h2=>by
   have htw:=QU 32 p
   have hg:ps.getD i []=p:=by simp[List.getD,hi,hp]
   rw[f12.l1,Ft hi]
   simp only[zT]
   rw[Oc hi]
   simp only[J8,hg]
   rcases Nat.lt_or_ge k p.length with h | h
   ·rw[Gx h,Ft h,G4 h]
    simp only[gd,br]
    rcases Nat.lt_or_ge k (tw 32 p) with h3 | h3
    ·have hne:((((p[k].toNat:Nat):Int)) != 32)=true:=by
      rw[bne_iff_ne]
      intro e
      exact Ko h3 h (UInt8.toNat_inj.1 (by show p[k].toNat=32;omega))
     rw[hne,Bc (by omega)]
     exact Pt n ps i p hi hp hl n3 l4 i5 i6 m (k+1) (by omega) (by omega)
    ·obtain rfl:k=tw 32 p:=by omega
     rw[RS h]
     rfl
   ·rw[E4 h]
    obtain rfl:k=tw 32 p:=by omega
    rfl
set_option maxRecDepth 20000 in
theorem RP (n:Nat) (hn:20000≤n) (ps:List (List UInt8)) (hps:∀ p∈ps,p.length≤8000) (hlen:ps.length≤8001):∀ (m i:Nat) (acc:List (List UInt8)) (c t:Int),ps.length+1≤m+i→i≤ps.length→acc.length≤i→0≤c→c≤65002→0≤t→t≤(i:Int) * 8001 →
  f12.l0 n m ps.length (BQ ps) acc.length (BQ acc) c t (i:Int)=some ((acc++(FO (ps.drop i) c).1).length,BQ (acc++(FO (ps.drop i) c).1),t+(FO (ps.drop i) c).2)
 | 0,i,acc,c,t,h1,h2,h3,h4,h5,h6,h7=>by omega
 | m+1,i,acc,c,t,h1,h2,h3,h4,h5,h6,h7=>by
   rw[f12.l0]
   rcases Nat.lt_or_ge i ps.length with h | h
   ·obtain ⟨p,hp⟩:∃ p,ps[i]=p:=⟨_,rfl⟩
    have hpl:p.length≤8000:=hps p (hp ▸ List.getElem_mem h)
    have htw:=QU 32 p
    have hg:ps.getD i []=p:=by simp[List.getD,h,hp]
    have hsc:=Pt n ps i p h hp (by omega) acc.length (BQ acc) c t n 0 (by omega) (by omega)
    rw[show ((0:Nat):Int)=0 from rfl] at hsc
    have hdr:ps.drop i=p::ps.drop (i+1):=by rw[drop_eq_getElem_cons h,hp]
    rw[Gx h,hsc,hdr]
    simp only[br,bd]
    rw[Ft h,zT,Oc h]
    simp only[gd,J8,hg]
    rcases Nat.lt_or_ge (tw 32 p) p.length with ht | ht
    ·have hne:((((tw 32 p:Nat):Int))==((p.length:Nat):Int))=false:=by rw[beq_eq_false_iff_ne];omega
     have hlin:(p.drop (tw 32 p+1)).length≤8000:=by simp;omega
     have hcr:=Gp (p.drop (tw 32 p+1)) h4 h5
     have e1:f35 n c (p.drop (tw 32 p+1))=some (C1 c (p.drop (tw 32 p+1))):=by
      have:=Q0 (n - 1) (p.drop (tw 32 p+1)) (by omega) (by omega) h4 h5
      rwa [show n - 1+1=n by omega] at this
     have e2:f36 n (C1 c (p.drop (tw 32 p+1)))=some (Lib.itoa (C1 c (p.drop (tw 32 p+1)))):=by
      have:=Se (n - 1) (by omega) hcr.1 (by omega:C1 c (p.drop (tw 32 p+1))≤1000000000000000000)
      rwa [show n - 1+1=n by omega] at this
     have e3:List.take (p.length - (tw 32 p+1)) (List.drop (tw 32 p+1) p)=p.drop (tw 32 p+1):=by
      rw[List.take_of_length_le];simp
     rw[hne,Bc (by omega)]
     simp only[zT,e3,e1,e2]
     rw[show decide ((0:Int)≤((tw 32 p+1:Nat):Int)∧((tw 32 p+1:Nat):Int)≤((p.length:Nat):Int)∧((p.length:Nat):Int)≤((p.length:Nat):Int))=true by rw[decide_eq_true_iff];omega]
     rw[show decide ((0:Int)≤(0:Int)∧(0:Int)≤((tw 32 p:Nat):Int)∧((tw 32 p:Nat):Int)≤((p.length:Nat):Int))=true by rw[decide_eq_true_iff];omega]
     simp only[drop_zero,Nat.sub_zero]
     rw[FO]
     by_cases hw:p.take (tw 32 p)=Lib.itoa (C1 c (p.drop (tw 32 p+1)))
     ·rw[if_pos ⟨ht,hw⟩,show (p.take (tw 32 p)==Lib.itoa (C1 c (p.drop (tw 32 p+1))))=true by rw[beq_iff_eq];exact hw]
      simp only[Bool.not_true]
      rw[show Nat.ble (acc.length+1) 2147483648=true by rw[Nat.ble_eq];omega]
      simp only[LM]
      rw[DG (x:=((p.length:Nat):Int)+1) (by omega) (by omega),DG (x:=t+(((p.length:Nat):Int)+1)) (by omega) (by omega),Bc (by omega)]
      have ih:=RP n hn ps hps hlen m (i+1) (acc++[p.drop (tw 32 p+1)]) (C1 c (p.drop (tw 32 p+1))) (t+(((p.length:Nat):Int)+1)) (by omega) (by omega) (by simp;omega) hcr.1 hcr.2 (by omega) (by omega)
      rw[length_append,length_singleton] at ih
      rw[ih,append_assoc,Int.add_assoc]
      rfl
     ·rw[if_neg (fun hh=>hw hh.2),show (p.take (tw 32 p)==Lib.itoa (C1 c (p.drop (tw 32 p+1))))=false by rw[beq_eq_false_iff_ne];exact hw]
      simp
    ·have hne:((((tw 32 p:Nat):Int))==((p.length:Nat):Int))=true:=by rw[beq_iff_eq];omega
     rw[hne,FO,if_neg (fun hh=>by omega)]
     simp
   ·rw[E4 h,drop_eq_nil_of_le h]
    simp[br,FO]
theorem N3 (s:List UInt8) (h:tw 10 s<s.length):(AZ 10 s).dropLast=s.take (tw 10 s)::(AZ 10 (s.drop (tw 10 s+1))).dropLast:=by
 rw[FZ,if_pos h]
 cases hc:AZ 10 (s.drop (tw 10 s+1)) with
 | nil =>
   rw[FZ] at hc
   split at hc <;>simp at hc
 | cons a b=>rfl
theorem RX (n:Nat) (hn:20000≤n):∀ (m:Nat) (rest:List UInt8) (acc:List (List UInt8)) (c t:Int),rest.length+2≤m→rest.length≤8000→acc.length+rest.length≤8001→0≤c→c≤65002→0≤t→t+(rest.length:Int)≤100000 →
  f13.l0 n m acc.length (BQ acc) c t rest=some ((acc++(FO (AZ 10 rest).dropLast c).1).length,BQ (acc++(FO (AZ 10 rest).dropLast c).1),t+(FO (AZ 10 rest).dropLast c).2,true)
 | 0,rest,acc,c,t,h1,h2,h3,h4,h5,h6,h7=>by omega
 | m+1,rest,acc,c,t,h1,h2,h3,h4,h5,h6,h7=>by
   have hcut:∀ (x:List UInt8) (b:UInt8),x.length≤8000→LU n x [b]=some (Lib.cut x [b]):=fun x b hx=>by
    obtain ⟨k,rfl⟩:∃ k,n=k+1:=⟨n - 1,by omega⟩
    simp only[LU]
    rw[if_pos (by omega)]
   have hchk:∀ x:List UInt8,x.length≤8000→f29 n c x=some (C1 c x,true):=fun x hx=>by
    have:=Qs (n - 1) x (by omega) (by omega) h4 h5
    rwa [show n - 1+1=n by omega] at this
   rw[f13.l0,hcut rest 10 h2,LY 10 rest]
   by_cases hr:tw 10 rest<rest.length
   ·rw[if_pos hr,N3 rest hr]
    simp only[bd]
    obtain ⟨p,hp⟩:∃ p,p=rest.take (tw 10 rest):=⟨_,rfl⟩
    have hpl:p.length=tw 10 rest:=by rw[hp,length_take];omega
    rw[← hp,hcut p 32 (by omega),LY 32 p,FO]
    by_cases ht:tw 32 p<p.length
    ·rw[if_pos ht]
     have hlin:(p.drop (tw 32 p+1)).length≤8000:=by simp;omega
     have hcr:=Gp (p.drop (tw 32 p+1)) h4 h5
     have e2:f31 n (C1 c (p.drop (tw 32 p+1)))=some (Lib.itoa (C1 c (p.drop (tw 32 p+1)))):=by
      have:=Sv (n - 2) (c:=C1 c (p.drop (tw 32 p+1))) (by omega) (by omega)
      rwa [show n - 2+2=n by omega] at this
     have e3:∀ x,f38 n x=some x:=fun x=>by
      obtain ⟨k,rfl⟩:∃ k,n=k+1:=⟨n - 1,by omega⟩
      rfl
     simp only[bd,hchk _ hlin,br,Bool.not_true,e2,e3]
     by_cases hw:p.take (tw 32 p)=Lib.itoa (C1 c (p.drop (tw 32 p+1)))
     ·rw[if_pos ⟨ht,hw⟩,show (p.take (tw 32 p)==Lib.itoa (C1 c (p.drop (tw 32 p+1))))=true by rw[beq_iff_eq];exact hw]
      simp only[Bool.not_true,gd]
      rw[show Nat.ble (acc.length+1) 2147483648=true by rw[Nat.ble_eq];omega]
      simp only[LM]
      rw[DG (x:=((p.length:Nat):Int)+1) (by omega) (by omega),DG (x:=t+(((p.length:Nat):Int)+1)) (by omega) (by omega)]
      have ih:=RX n hn m (rest.drop (tw 10 rest+1)) (acc++[p.drop (tw 32 p+1)]) (C1 c (p.drop (tw 32 p+1))) (t+(((p.length:Nat):Int)+1)) (by simp;omega) (by simp;omega) (by simp;omega) hcr.1 hcr.2 (by omega) (by simp;omega)
      rw[length_append,length_singleton] at ih
      rw[ih,append_assoc,Int.add_assoc]
      rfl
     ·rw[if_neg (fun hh=>hw hh.2),show (p.take (tw 32 p)==Lib.itoa (C1 c (p.drop (tw 32 p+1))))=false by rw[beq_eq_false_iff_ne];exact hw]
      simp
    ·rw[if_neg ht,if_neg (fun hh=>ht hh.1)]
     simp only[bd,hchk [] (by simp),br,Bool.not_true,Bool.not_false]
     simp
   ·rw[if_neg hr]
    have hl:(Lib.cut rest [32]).2.1.length≤8000:=by
     rw[LY]
     split <;>simp <;>omega
    have hd:(AZ 10 rest).dropLast=[]:=by rw[FZ,if_neg hr];rfl
    simp only[bd,hcut rest 32 h2,hchk _ hl,br,Bool.not_false]
    rw[hd]
    simp[FO]
theorem TM (n:Nat) (hn:20000≤n) (s:List UInt8):∃ (l:List (List UInt8)) (k:Int) (b:Bool),l.length≤8001∧f12 (n+1) s=some (l.length,BQ l,k,b)∧f13 (n+1) s=some (l.length,BQ l,k,b):=by
 rw[f12,f13]
 by_cases h:s.length≤8000
 ·have hd:decide (((s.length:Nat):Int)>8000)=false:=by rw[decide_eq_false_iff_not];omega
  have hx:Ff n s=some ((AZ 10 s).length - 1,BQ (AZ 10 s).dropLast,(AZ 10 s).getLastD []):=by
   obtain ⟨k,rfl⟩:∃ k,n=k+1:=⟨n - 1,by omega⟩
   simp only[Ff]
   rw[if_pos (by omega)]
   rfl
  have hcl:=Kl 10 s
  have hcl':(AZ 10 s).dropLast.length=(AZ 10 s).length - 1:=List.length_dropLast
  have e1:=RP n hn (AZ 10 s).dropLast (fun p hp=>by have:=Oq 10 s p (List.dropLast_subset _ hp);omega) (by omega) n 0 [] 0 0 (by omega) (by omega) (by simp) (by omega) (by omega) (by omega) (by omega)
  have e2:=RX n hn n s [] 0 0 (by omega) (by omega) (by simp;omega) (by omega) (by omega) (by omega) (by omega)
  rw[hcl',show ((0:Nat):Int)=0 from rfl,drop_zero,nil_append] at e1
  rw[nil_append] at e2
  refine ⟨(FO (AZ 10 s).dropLast 0).1,0+(FO (AZ 10 s).dropLast 0).2,true,?_,?_,?_⟩
  ·have:=Mo (AZ 10 s).dropLast 0;omega
  ·rw[hd,hx]
   simp only[br,bd]
   rw[show (reps 0 [T.str []])=BQ [] from rfl]
   rw[length_nil] at e1
   rw[e1]
  ·rw[hd]
   simp only[br]
   rw[length_nil,show BQ []=[] from rfl] at e2
   rw[e2]
   rfl
 ·have hd:decide (((s.length:Nat):Int)>8000)=true:=by rw[decide_eq_true_iff];omega
  rw[hd]
  exact ⟨[],0,false,by simp,rfl,rfl⟩
theorem Su (n:Nat) (s:List UInt8):f4 (n+30000) s=some true:=by
 obtain ⟨l,k,b,hl,h1,h2⟩:=TM (n+29998) (by omega) s
 rw[f4]
 cases decide (((s.length:Nat):Int)>1048576)
 case true=>rfl
 have h1:f12 (n+29999) s=_:=h1
 have h2:f13 (n+29999) s=_:=h2
 have h3:f11 (n+29999) l.length (BQ l) l.length (BQ l)=some true:=TP (n+29998) l (by omega) (by omega)
 have h4:f14 (n+29999) l.length (BQ l) 1=_:=R5 (n+29998) l (by omega) (by omega) (by omega)
 have h5:f15 (n+29999) l.length (BQ (Cp (n+29998) 1 l.length)) 1=_:=R2 (n+29998) l.length (by omega) (by omega) (by omega)
 simp only[br,bd,h1,h2,h3,h4,h5,Bool.not_true,bne_self_eq_false,beq_self_eq_true]
 rw[show decide (((l.length+1:Nat):Int)<0)=false by rw[decide_eq_false_iff_not];omega]
theorem SC (s:List UInt8) (_:s.length≤maxLen):∃ n,f4 n s=some true:=⟨30000,Su 0 s⟩
theorem law4:∀ args,Cg E Tryd.f4.params.toList args→∃ N os,AN E N 4 args=some ⟨[⟨false,[.leaf],[.bool true]⟩],os⟩:=by
 intro args h0
 have hp:Tryd.f4.params.toList=[9]:=by kernel_rfl
 rw[hp] at h0
 obtain ⟨ts0,r0,rfl,hw0,h1⟩:=h0.cons_inv (d:=⟨false,1,16,[.leaf],[.str []],.str⟩) (by kernel_rfl)
 obtain ⟨a0,rfl,g0⟩:=hw0.str_inv (d:=⟨false,1,16,[.leaf],[.str []],.str⟩) (by kernel_rfl) rfl
 obtain rfl:=h1.nil_inv
 obtain ⟨N,hN⟩:=SC a0 g0
 exact ⟨N,_,f4.ok N (a0) true hN⟩
end Go.Proofs.YtokonabdnlckdaaDoor.D
end
section
namespace Go.Proofs.YtokonabdnlckdaaDoor.fnExactRecoverJournal
open Go Go.ChangeShapes Go.WideShapes Go.ChangeAt Go.RowKit Go.Desk
set_option linter.unusedVariables false
theorem own:ownKnob Tryd.prog.godebug=none:=by kernel_rfl
theorem laidOut:laidOutB Tryd.prog=true:=by kernel_rfl
def laids : List (String × DataW Unit) := [("math/bits.deBruijn32tab", Rows.laid_math_bits_deBruijn32tab), ("math/bits.deBruijn64tab", Rows.laid_math_bits_deBruijn64tab), ("internal/strconv.uint64pow10", Rows.laid_internal_strconv_uint64pow10)]
theorem door_met (os:Os) (args:Array Value):laidMetH Tryd.prog laids ((World.doorLaid Tryd.prog 4000 os).forCall (fun _ _=>0) ⟨#[],args,[]⟩).memory :=
 laidMetH_of_parts3 (fuel:=8) (laidMet_of_run' 8 (by kernel_rfl) (by kernel_rfl)) (by kernel_rfl) (by kernel_rfl)
theorem leans {W:World} (hsh:W.ShapedOpen Tryd.prog) (hL:laidMetH Tryd.prog laids W):Laid Tryd.prog D.E.laid W (fun b=>b<W.heap.size):=by
 rw[MakeChecks.laidMetH_plain _ _ _ (by kernel_rfl)] at hL
 intro n hn
 have hn : n ∈ ["internal/bytealg.MaxLen", "internal/strconv.uint64pow10"] := hn
 simp only[mem_cons,List.mem_nil_iff,or_false] at hn
 rcases hn with rfl | rfl
 ·rw[laidIs_maxLen]
  exact laid_int (g:=0) (t:=3) (zero:=#[.int .i64 0]) hsh (by kernel_rfl) (of_decide_eq_true (by kernel_rfl)) (by kernel_rfl) (by kernel_rfl) (by kernel_rfl) (by kernel_rfl) (by kernel_rfl)
 ·rw[laidIs_pow10]
  have e:(Rows.laid_internal_strconv_uint64pow10:DataW Unit)=Lib.tabData .u64 Lib.pow10Tab:=by kernel_rfl
  have hm : ("internal/strconv.uint64pow10", Lib.tabData (H := Unit) .u64 Lib.pow10Tab) ∈ laids := by rw [← e]; exact (List.Mem.tail _ (List.Mem.tail _ (List.Mem.head _)))
  exact tab_of_reads (g:=2) (t:=161) (e:=95) (n:=20) (by kernel_rfl) (by kernel_rfl) (by kernel_rfl) (by kernel_rfl) (by kernel_rfl) (by kernel_rfl) (Lib.laidMet.reads hL hm) (by decide)
set_option maxRecDepth 100000 in
theorem lifted (os:Os) (started:os.Started) (H:Type) (enc:TypeId × Value→H) :
  ReturnsInHanded {} Tryd.checked os 4 .any (fun w args=>(Rows.fnExactRecoverJournalSpec.pre enc Tryd.prog Tryd.f4 Rows.fnExactRecoverJournalRow.domain false w args∧laidMetH Tryd.prog laids w)∧sizedMet enc Tryd.prog Tryd.f4 (OpenSpec.ofChange Rows.fnExactRecoverJournalSpec) false w args) (Rows.fnExactRecoverJournalSpec.post enc Tryd.prog Tryd.f4 false true false false):=by
 refine handed_laid (C:=Tryd.checked) (X:=fun w _=>laidMetH Tryd.prog laids w) (fun _ _ _ hh h=>h.of_heap hh) own started (by kernel_rfl) Tryd.func4
  (ChangeSpec.witness_shaped (enc:=enc) (C:=Tryd.checked) (os:=os) (X:=fun w _=>laidMetH Tryd.prog laids w) false (World.doorLaid Tryd.prog 4000 os) #[.string ByteArray.empty] 8 rfl (World.shaped_of_RefB (by kernel_rfl) (by kernel_rfl)) (by kernel_rfl) (by kernel_rfl) (by kernel_rfl) (door_met os _)) ?_
 intro W base args ds gs before hval hW hL hsh
 exact law_contract (c:=D.c4) Tryd.checked.mixed D.tysOk D.fnOk Tryd.func4 (by kernel_rfl) (by kernel_rfl) (by kernel_rfl) Tryd.underlying4 rfl
  (fun ds h=>by
    rw[show Tryd.f4.params.toList.length=1 by kernel_rfl] at h
    match ds,h with
    | [_],_=>rfl)
  laidOut (N:=8) (by kernel_rfl) (by kernel_rfl) D.law4 (leans hsh hL) hval hW
theorem over:Rows.fnExactRecoverJournalRow.holds Tryd.pinned (OpenSpec.ofChange Rows.fnExactRecoverJournalSpec) :=
 OpenClaim.holds_of_wide 4 Tryd.f4 rfl rfl rfl rfl rfl rfl rfl ⟨rfl,rfl,rfl,rfl,rfl⟩ rfl rfl rfl rfl rfl (by kernel_rfl) Tryd.func4 (by kernel_rfl)
  (of_decide_eq_true (by kernel_rfl)) (by unfold Func.isWrapper;first | (rw[if_pos (by decide +kernel)];kernel_rfl) | (rw[if_neg (by decide +kernel)];exact ⟨rfl,rfl⟩))
  (fun os started H enc _=>lifted os started H enc)
theorem card:Rows.FnExactRecoverJournalCardSaid :=
 Claim7.holds_tied_plain_at .later [] [.data, .data, .data] true (true, "96a24e819fef870dbceee838b31527416c8cb6864fa3095e2f58d56412470322") true
  over (fun _ h=>by cases h) (by kernel_rfl) (fun _ h=>by cases h) fnExactRecoverJournal_row_tie rfl ⟨rfl,rfl⟩ (by kernel_rfl) rfl
  (fun f fn hf hfn=>by
    obtain rfl : f = 4 := Option.some.inj ((show Tryd.prog.funcNamed "loop.example/g01170/laws.FnExactRecoverJournal" = some 4 by kernel_rfl).symm.trans hf) |>.symm
    obtain rfl:fn=Tryd.f4:=(Option.some.inj (Tryd.func4.symm.trans hfn)).symm
    exact ⟨by kernel_rfl,fun j t ht=>by
     rw[Tryd.params4] at ht
     rcases j with _ | j
     ·obtain rfl:9=t:=by simpa using ht
      exact (show Tryd.prog.wantsStandIn 9=false by kernel_rfl)
     simp at ht⟩)
  (by kernel_rfl)
#print axioms card
end Go.Proofs.YtokonabdnlckdaaDoor.fnExactRecoverJournal
namespace Go.Proofs.YtokonabdnlckdaaDoor
theorem fnExactRecoverJournal_holds:Rows.FnExactRecoverJournalCardSaid:=fnExactRecoverJournal.card
end Go.Proofs.YtokonabdnlckdaaDoor
end
