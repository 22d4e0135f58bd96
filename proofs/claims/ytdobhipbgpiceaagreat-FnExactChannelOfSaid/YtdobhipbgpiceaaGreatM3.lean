/- FnExactChannelOf holds: for every input the law returns true, and its arguments read as before. -/
import Derived.Test.YtdobhipbgpiceaaGreatChecked
import Derived.KernelRfl
import Derived.Test.YtdobhipbgpiceaaGreatRows
import Derived.WalkKit
import Derived.ProofKit
import Derived.OpenShut
import Derived.ShutString
import Derived.ChangeOld
import Derived.Below
import Derived.SizedLaws
import Derived.Test.YtdobhipbgpiceaaGreatKernC
import Derived.Test.YtdobhipbgpiceaaGreatM3b
set_option linter.all false
set_option linter.unusedVariables false
section
namespace Go.Proofs.YtdobhipbgpiceaaGreat.D
open Go Go.Desk
set_option linter.unusedVariables false
theorem s_tracks1 (n : Nat) (hn : 10 < n) (c : Int) (d : Nat) (e f : Bool) : f64 (n + 2) 1 (setN (reps 1 [(T.lst 0 []),(T.int .i64 (0 : Int)),(T.flt .f32 0),(T.bool false),(T.bool false)]) 0 [(T.lst 0 (reps 0 [(T.flt .f32 0)])),(T.int .i64 c),(T.flt .f32 d),(T.bool e),(T.bool f)]) = some (decide (-2000 ≤ c ∧ c ≤ 2000) && panB d):=by
 obtain ⟨n,rfl⟩ : ∃ k,n = k + 2:=⟨n - 2,by omega⟩
 have hs : setN (reps 1 [(T.lst 0 []),(T.int .i64 (0 : Int)),(T.flt .f32 0),(T.bool false),(T.bool false)]) 0 [(T.lst 0 (reps 0 [(T.flt .f32 0)])),(T.int .i64 c),(T.flt .f32 d),(T.bool e),(T.bool f)] = [(T.lst 0 []),(T.int .i64 c),(T.flt .f32 d),(T.bool e),(T.bool f)]:=rfl
 have l1 : f64.l0 (n + 2 + 1) (n + 2 + 1) 1 [(T.lst 0 []),(T.int .i64 c),(T.flt .f32 d),(T.bool e),(T.bool f)] ((1 : Nat) : Int) 0 = some (if decide (-2000 ≤ c ∧ c ≤ 2000) && panB d then Sum.inr (1,[(T.lst 0 []),(T.int .i64 c),(T.flt .f32 d),(T.bool e),(T.bool f)]) else Sum.inl false):=by
  rw [f64.l0]
  have k0 : decide ((0 : Int) < ((1 : Nat) : Int)) = true:=rfl
  have k1 : decide ((0 : Int) ≤ 0 ∧ (0 : Int) < ((1 : Nat) : Int)) = true:=rfl
  have k2 : okAt [.lst,.int .i64,.flt .f32,.bool,.bool] [(T.lst 0 []),(T.int .i64 c),(T.flt .f32 d),(T.bool e),(T.bool f)] (Int.toNat 0 * 5 + 0) = true:=rfl
  have k3 : nAt [(T.lst 0 []),(T.int .i64 c),(T.flt .f32 d),(T.bool e),(T.bool f)] (Int.toNat 0 * 5 + 0) = 0:=rfl
  have k4 : iAt [(T.lst 0 []),(T.int .i64 c),(T.flt .f32 d),(T.bool e),(T.bool f)] (Int.toNat 0 * 5 + 0 + 1) = c:=rfl
  have k5 : fAt [(T.lst 0 []),(T.int .i64 c),(T.flt .f32 d),(T.bool e),(T.bool f)] (Int.toNat 0 * 5 + 0 + 1 + 1) = d:=rfl
  rw [k0,k1,k2,k3,k4,k5]
  simp only [br_t,Bool.and_self,gd_t,s_few,bd_s,s_in,s_panB]
  cases decide (-2000 ≤ c ∧ c ≤ 2000)
  ·rfl
  ·cases panB d
   ·rfl
   ·show f64.l0 (n + 2 + 1) (n + 2) 1 _ ((1 : Nat) : Int) 1 = _
    rw [f64.l0]; rfl
 rw [hs,f64,l1]
 cases decide (-2000 ≤ c ∧ c ≤ 2000) && panB d <;> rfl
theorem s_st_loop (n : Nat) (hn : 100 < n) (N : Nat) (ts : List T) (i5 : Int) (ss : List Strp) (hl : ss.length ≤ 100) : ∀ (j i m : Nat),i + j = ss.length → j < m →
  f27.l0 (n + 5) m N ts ss.length (strps ss) i5 (ss.length : Int) (i : Int) = some (if (ss.drop i).all stB then Sum.inr (N,ts,ss.length,strps ss,i5) else Sum.inl false):=by
 intro j
 induction j with
 | zero =>
   intro i m hi hm
   obtain ⟨m,rfl⟩ : ∃ k,m = k + 1:=⟨m - 1,by omega⟩
   rw [f27.l0,nlt_dec (by omega),List.drop_eq_nil_of_le (by omega)]; rfl
 | succ j ih =>
   intro i m hi hm
   obtain ⟨m,rfl⟩ : ∃ k,m = k + 1:=⟨m - 1,by omega⟩
   have h : i < ss.length:=by omega
   rw [f27.l0,lt_dec h,in_dec h,Int.toNat_natCast,okS5 h,st_all h]
   simp only [br_t,Bool.and_self,gd_t,nS5 h,lS5 h,tS5 h,pS5 h,mS5 h,oS5 h]
   obtain ⟨x,y,e1⟩:=s_strip1 (n + 4) (sAt5 ss i).es.length (effs (sAt5 ss i).es) (sAt5 ss i).tn (sAt5 ss i).pan (sAt5 ss i).mute (sAt5 ss i).solo 0 (reps 0 [(T.flt .f32 0)])
   rw [e1]
   have e2:=s_tracks1 (n + 3) (by omega) (sAt5 ss i).tn (sAt5 ss i).pan (sAt5 ss i).mute (sAt5 ss i).solo
   simp only [bd_s,s_chainB n (sAt5 ss i).es hn,e2,wrap_succ (show i < 9223372036854775807 by omega)]
   unfold stB
   cases chainB (sAt5 ss i).es
   ·rfl
   ·cases decide (-2000 ≤ (sAt5 ss i).tn ∧ (sAt5 ss i).tn ≤ 2000) && panB (sAt5 ss i).pan
    ·rfl
    ·simp only [Bool.not_true,br_f,Bool.true_and]
     exact ih (i + 1) m (by omega) (by omega)
theorem s_cl_loop (n : Nat) (N : Nat) (ts : List T) (M : Nat) (hM : M ≤ 1000) (cs : List Eff) (hl : cs.length ≤ 100) : ∀ (j i m : Nat),i + j = cs.length → j < m →
  f27.l1 (n + 2) m cs.length (effs cs) N ts (M : Int) (cs.length : Int) (i : Int) = some (if (cs.drop i).all (clB M) then Sum.inr () else Sum.inl false):=by
 intro j
 induction j with
 | zero =>
   intro i m hi hm
   obtain ⟨m,rfl⟩ : ∃ k,m = k + 1:=⟨m - 1,by omega⟩
   rw [f27.l1,nlt_dec (by omega),List.drop_eq_nil_of_le (by omega)]; rfl
 | succ j ih =>
   intro i m hi hm
   obtain ⟨m,rfl⟩ : ∃ k,m = k + 1:=⟨m - 1,by omega⟩
   have h : i < cs.length:=by omega
   have e3 : decide (((eAt cs i).nums.length : Int) ≤ 256) = decide ((eAt cs i).nums.length ≤ 256):=by rw [decide_eq_decide]; omega
   rw [f27.l1,lt_dec h,in_dec h,Int.toNat_natCast,okE h,cl_all h,show IntKind.i64.wrap ((M : Int) - 1) = (M : Int) - 1 by rw [wrap64] <;> omega]
   simp only [br_t,Bool.and_self,gd_t,kE h,gE h,nE h,lE h,s_in (n + 1),s_few,e3,bd_s,wrap_succ (show i < 9223372036854775807 by omega)]
   unfold clB
   cases decide (0 ≤ (eAt cs i).kind ∧ (eAt cs i).kind ≤ (M : Int) - 1)
   ·rfl
   ·cases decide (0 ≤ (eAt cs i).len ∧ (eAt cs i).len ≤ 256)
    ·rfl
    ·cases decide ((eAt cs i).nums.length ≤ 256)
     ·rfl
     ·simp only [Bool.not_true,br_f,Bool.true_and]
      exact ih (i + 1) m (by omega) (by omega)
theorem s_sessB (n : Nat) (cl : List Eff) (ss : List Strp) (hn : 200 < n) : f27 (n + 6) cl.length (effs cl) ss.length (strps ss) = some (sessB cl ss):=by
 rw [f27]
 simp only [bd_s,s_in (n + 4)]
 unfold sessB
 by_cases h1 : 1 ≤ ss.length ∧ ss.length ≤ 8
 ·rw [decide_eq_true h1,decide_eq_true (show (1 : Int) ≤ (ss.length : Int) ∧ (ss.length : Int) ≤ 8 by omega)]
  by_cases h2 : cl.length ≤ 12
  ·rw [decide_eq_true h2,decide_eq_false (show ¬ (cl.length : Int) > 12 by omega)]
   have e1:=s_st_loop n (by omega) cl.length (effs cl) (ss.length : Int) ss (by omega) ss.length 0 (n + 5) (by omega) (by omega)
   have e1 : f27.l0 (n + 5) (n + 5) cl.length (effs cl) ss.length (strps ss) (ss.length : Int) (ss.length : Int) 0 = _:=e1
   have e2:=s_cl_loop (n + 3) ss.length (strps ss) ss.length (by omega) cl (by omega) cl.length 0 (n + 5) (by omega) (by omega)
   have e2 : f27.l1 (n + 5) (n + 5) cl.length (effs cl) ss.length (strps ss) (ss.length : Int) (cl.length : Int) 0 = _:=e2
   simp only [Bool.not_true,br_f,e1,List.drop_zero,Bool.true_and]
   cases ss.all stB
   ·rfl
   ·simp only [if_true,bd_s,sm_r,e2,List.drop_zero,Bool.true_and]
    cases cl.all (clB ss.length) <;> rfl
  ·rw [decide_eq_false h2,decide_eq_true (show (cl.length : Int) > 12 by omega)]; rfl
 ·rw [decide_eq_false h1,decide_eq_false (show ¬ ((1 : Int) ≤ (ss.length : Int) ∧ (ss.length : Int) ≤ 8) by omega)]; rfl
def addAt (p : Int) (x : Nat) (out : List Nat) : List Nat:=if 0 ≤ p ∧ p < (out.length : Int) then out.set p.toNat (fadd .f32 (out.getD p.toNat 0) x) else out
def addClip : Int → List Nat → List Nat → List Nat
 | _,[],out => out
 | p,x :: xs,out => addClip (p + 1) xs (addAt p x out)
def trackGo (track frm : Int) : List Eff → List Nat → List Nat
 | [],out => out
 | c :: cs,out => trackGo track frm cs (if c.kind = track then addClip (c.len - frm) c.nums out else out)
theorem addAt_length (p : Int) (x : Nat) (out : List Nat) : (addAt p x out).length = out.length:=by unfold addAt; split <;> simp
theorem addClip_length : ∀ (xs : List Nat) (p : Int) (out : List Nat),(addClip p xs out).length = out.length
 | [],_,_ => rfl
 | x :: xs,p,out => by rw [addClip,addClip_length xs,addAt_length]
theorem trackGo_length (track frm : Int) : ∀ (cs : List Eff) (out : List Nat),(trackGo track frm cs out).length = out.length
 | [],_ => rfl
 | c :: cs,out => by
   rw [trackGo,trackGo_length track frm cs]
   split
   ·rw [addClip_length]
   ·rfl
theorem addAt_w32 {p : Int} {x : Nat} {out : List Nat} (h : AllW out) : AllW (addAt p x out):=by
 unfold addAt
 split
 ·intro y hy
  rcases List.mem_or_eq_of_mem_set hy with h' | rfl
  ·exact h y h'
  ·exact w32_fadd _ _
 ·exact h
theorem addClip_w32 : ∀ (xs : List Nat) (p : Int) (out : List Nat),AllW out → AllW (addClip p xs out)
 | [],_,_,h => h
 | x :: xs,p,out,h => addClip_w32 xs _ _ (addAt_w32 h)
theorem trackGo_w32 (track frm : Int) : ∀ (cs : List Eff) (out : List Nat),AllW out → AllW (trackGo track frm cs out)
 | [],_,h => h
 | c :: cs,out,h => by
   rw [trackGo]
   refine trackGo_w32 track frm cs _ ?_
   split
   ·exact addClip_w32 _ _ _ h
   ·exact h
theorem setN_flt {out : List Nat} {i y : Nat} : setN (fls .f32 out) i [T.flt .f32 y] = fls .f32 (out.set i y):=by rw [setN_one]; simp [fls,List.map_set]
theorem i_samples_clip (n : Nat) (i1 i2 : Int) (n4 : Nat) (l5 : List T) (n6 : Nat) (l7 : List T) (k : Nat) (i10 : Int) (at_ : Int) (n12 : Nat) (l13 : List T) (n14 : Nat) (l15 : List T) (i16 i17 : Int) (hk : k ≤ 100000) (ha : -10000000 ≤ at_ ∧ at_ ≤ 10000000) (hf : -10000000 ≤ i2 ∧ i2 ≤ 10000000) :
  ∀ (zs p out : List Nat) (m : Nat),out.length = k → p.length + zs.length < 1048576 → zs.length < m →
  f57.l1 (n + 1) m i1 i2 (k : Int) n4 l5 n6 l7 k (fls .f32 out) i10 at_ n12 l13 n14 l15 i16 i17 (p ++ zs).length (fls .f32 (p ++ zs)) ((p ++ zs).length : Int) (p.length : Int) =
   some (i1,i2,(k : Int),n4,l5,n6,l7,k,fls .f32 (addClip (at_ + (p.length : Int) - i2) zs out),n14,l15,i16,i17):=by
 intro zs
 induction zs with
 | nil =>
   intro p out m ho _ hm
   obtain ⟨m,rfl⟩ : ∃ k,m = k + 1:=⟨m - 1,by simp at hm; omega⟩
   rw [f57.l1,lt_end]; rfl
 | cons z zs ih =>
   intro p out m ho hp hm
   obtain ⟨m,rfl⟩ : ∃ k,m = k + 1:=⟨m - 1,by simp at hm; omega⟩
   have hp' : p.length < 1048576:=by simp at hp; omega
   have w1 : IntKind.i64.wrap (IntKind.i64.wrap (at_ + (p.length : Int)) - i2) = at_ + (p.length : Int) - i2:=by
    rw [wrap64 (x:=at_ + (p.length : Int)) (by omega) (by omega),wrap64 (by omega) (by omega)]
   have w2 : IntKind.i64.wrap ((k : Int) - 1) = (k : Int) - 1:=by rw [wrap64] <;> omega
   have w' :=wrap_len (z:=z) (p:=p) (show p.length < 4611686018427387904 by omega)
   rw [f57.l1,lt_mid,in_mid,toNat_len,okAt_mid,fAt_mid]
   simp only [br_t,gd_t,Bool.and_self,w1,w2,i_in,bd_s,w']
   have hq : at_ + ((p ++ [z]).length : Int) - i2 = at_ + (p.length : Int) - i2 + 1:=by simp; omega
   rw [addClip]
   by_cases hc : 0 ≤ at_ + (p.length : Int) - i2 ∧ at_ + (p.length : Int) - i2 ≤ (k : Int) - 1
   ·obtain ⟨q,hq2⟩:=Int.eq_ofNat_of_zero_le hc.1
    have hqk : q < out.length:=by omega
    have step:=ih (p ++ [z]) (addAt (at_ + (p.length : Int) - i2) z out) m (by rw [addAt_length]; exact ho) (by simp at hp ⊢; omega) (by simp at hm; omega)
    rw [hq] at step
    have hadd : addAt (at_ + (p.length : Int) - i2) z out = out.set q (fadd .f32 (out.getD q 0) z):=by
     unfold addAt; rw [hq2,if_pos (by omega)]; rfl
    rw [hadd] at step ⊢
    rw [decide_eq_true hc,hq2] at *
    have g1 : decide ((0 : Int) ≤ (q : Int) ∧ (q : Int) < (k : Int)) = true:=decide_eq_true (by omega)
    have g2 : okAt [.flt .f32] (fls .f32 out) q = true:=okAt_fls hqk
    have g3 : Nat.ble (q + 1) (fls .f32 out).length = true:=by rw [fls_length]; exact le_ble (by omega)
    simp only [br_t,g1,gd_t,Int.toNat_natCast,g2,g3,fAt_fls,setN_flt]
    simpa using step
   ·have step:=ih (p ++ [z]) (addAt (at_ + (p.length : Int) - i2) z out) m (by rw [addAt_length]; exact ho) (by simp at hp ⊢; omega) (by simp at hm; omega)
    have hadd : addAt (at_ + (p.length : Int) - i2) z out = out:=by unfold addAt; rw [if_neg (by omega)]
    rw [hadd,hq] at step
    rw [hadd,decide_eq_false hc,br_f]
    simpa using step
theorem i_samples_loop (n : Nat) (track frm : Int) (N : Nat) (ts : List T) (M : Nat) (us : List T) (k : Nat) (hk : k ≤ 100000) (hf : -10000000 ≤ frm ∧ frm ≤ 10000000) (cs : List Eff) (hl : cs.length ≤ 100) (hcl : ∀ c ∈ cs,(0 ≤ c.len ∧ c.len ≤ 256) ∧ c.nums.length ≤ 256) (hn : 300 < n) : ∀ (j i m : Nat) (out : List Nat),i + j = cs.length → out.length = k → j < m →
  f57.l0 (n + 1) m track frm (k : Int) N ts M us k (fls .f32 out) cs.length (effs cs) (cs.length : Int) (i : Int) = some (k,fls .f32 (trackGo track frm (cs.drop i) out)):=by
 intro j
 induction j with
 | zero =>
   intro i m out hi ho hm
   obtain ⟨m,rfl⟩ : ∃ k,m = k + 1:=⟨m - 1,by omega⟩
   rw [f57.l0,nlt_dec (by omega),List.drop_eq_nil_of_le (by omega)]; rfl
 | succ j ih =>
   intro i m out hi ho hm
   obtain ⟨m,rfl⟩ : ∃ k,m = k + 1:=⟨m - 1,by omega⟩
   have h : i < cs.length:=by omega
   obtain ⟨c1,c2⟩:=hcl _ (eAt_mem h)
   rw [f57.l0,lt_dec h,in_dec h,Int.toNat_natCast,okE h,eff_drop h,trackGo]
   simp only [br_t,Bool.and_self,gd_t,kE h,gE h,nE h,lE h,bd_s,wrap_succ (show i < 9223372036854775807 by omega)]
   by_cases hc : (eAt cs i).kind = track
   ·have e:=i_samples_clip n track frm N ts M us k (eAt cs i).kind (eAt cs i).len (eAt cs i).nums.length (fls .f32 (eAt cs i).nums) cs.length (effs cs) (cs.length : Int) (i : Int) hk (by omega) hf (eAt cs i).nums [] out (n + 1) ho (by simp; omega) (by omega)
    have e : f57.l1 (n + 1) (n + 1) track frm (k : Int) N ts M us k (fls .f32 out) (eAt cs i).kind (eAt cs i).len (eAt cs i).nums.length (fls .f32 (eAt cs i).nums) cs.length (effs cs) (cs.length : Int) (i : Int) (eAt cs i).nums.length (fls .f32 (eAt cs i).nums) ((eAt cs i).nums.length : Int) 0 = _:=e
    rw [show ((eAt cs i).kind != track) = false by simp [hc],if_pos hc]
    simp only [br_f,e,bd_s,List.length_nil,Int.natCast_zero,Int.add_zero,wrap_succ (show i < 9223372036854775807 by omega)]
    exact ih (i + 1) m _ (by omega) (by rw [addClip_length]; exact ho) (by omega)
   ·rw [show ((eAt cs i).kind != track) = true by simp [hc],if_neg hc]
    simp only [br_t]
    exact ih (i + 1) m out (by omega) ho (by omega)
theorem i_samples (n : Nat) (cs : List Eff) (M : Nat) (us : List T) (track frm : Int) (k : Nat) (hk : k ≤ 100000) (hf : -10000000 ≤ frm ∧ frm ≤ 10000000) (hl : cs.length ≤ 100) (hcl : ∀ c ∈ cs,(0 ≤ c.len ∧ c.len ≤ 256) ∧ c.nums.length ≤ 256) (hn : 300 < n) :
  f57 (n + 2) cs.length (effs cs) M us track frm (k : Int) = some (k,fls .f32 (trackGo track frm cs (List.replicate k 0))):=by
 have e:=i_samples_loop n track frm cs.length (effs cs) M us k hk hf cs hl hcl hn cs.length 0 (n + 1) (List.replicate k 0) (by omega) (by simp) (by omega)
 have e : f57.l0 (n + 1) (n + 1) track frm (k : Int) cs.length (effs cs) M us k (fls .f32 (List.replicate k 0)) cs.length (effs cs) (cs.length : Int) 0 = _:=e
 rw [f57,i_zeroed n k (by omega)]
 simp only [bd_s,e,List.drop_zero]
theorem s_samples_clip (n : Nat) (N : Nat) (ts : List T) (M : Nat) (us : List T) (track : Int) (k : Nat) (i9 at_ : Int) (i13 i14 : Int) (hk : k ≤ 100000) (ha : 0 ≤ at_ ∧ at_ ≤ 10000000) :
  ∀ (zs p out : List Nat) (m : Nat),out.length = k → p.length + zs.length < 1048576 → zs.length < m →
  f68.l1 n m N ts M us track (k : Int) k (fls .f32 out) i9 at_ (p ++ zs).length (fls .f32 (p ++ zs)) i13 i14 ((p ++ zs).length : Int) (p.length : Int) =
   some (N,ts,M,us,track,(k : Int),k,fls .f32 (addClip (at_ + (p.length : Int)) zs out),i13,i14):=by
 intro zs
 induction zs with
 | nil =>
   intro p out m ho _ hm
   obtain ⟨m,rfl⟩ : ∃ k,m = k + 1:=⟨m - 1,by simp at hm; omega⟩
   rw [f68.l1,lt_end]; rfl
 | cons z zs ih =>
   intro p out m ho hp hm
   obtain ⟨m,rfl⟩ : ∃ k,m = k + 1:=⟨m - 1,by simp at hm; omega⟩
   have hp' : p.length < 1048576:=by simp at hp; omega
   have w1 : IntKind.i64.wrap (at_ + (p.length : Int)) = at_ + (p.length : Int):=by rw [wrap64] <;> omega
   have w' :=wrap_len (z:=z) (p:=p) (show p.length < 4611686018427387904 by omega)
   rw [f68.l1,lt_mid,in_mid,toNat_len,okAt_mid,fAt_mid]
   simp only [br_t,gd_t,Bool.and_self,w1,bd_s,w']
   have hq : at_ + ((p ++ [z]).length : Int) = at_ + (p.length : Int) + 1:=by simp; omega
   rw [addClip]
   by_cases hc : at_ + (p.length : Int) < (k : Int)
   ·obtain ⟨q,hq2⟩:=Int.eq_ofNat_of_zero_le (show 0 ≤ at_ + (p.length : Int) by omega)
    have hqk : q < out.length:=by omega
    have step:=ih (p ++ [z]) (addAt (at_ + (p.length : Int)) z out) m (by rw [addAt_length]; exact ho) (by simp at hp ⊢; omega) (by simp at hm; omega)
    rw [hq] at step
    have hadd : addAt (at_ + (p.length : Int)) z out = out.set q (fadd .f32 (out.getD q 0) z):=by
     unfold addAt; rw [hq2,if_pos (by omega)]; rfl
    rw [hadd] at step ⊢
    rw [decide_eq_true hc]
    rw [hq2] at *
    have g1 : decide ((0 : Int) ≤ (q : Int) ∧ (q : Int) < (k : Int)) = true:=decide_eq_true (by omega)
    have g2 : okAt [.flt .f32] (fls .f32 out) q = true:=okAt_fls hqk
    have g3 : Nat.ble (q + 1) (fls .f32 out).length = true:=by rw [fls_length]; exact le_ble (by omega)
    simp only [br_t,g1,gd_t,Int.toNat_natCast,g2,g3,fAt_fls,setN_flt]
    simpa using step
   ·have step:=ih (p ++ [z]) (addAt (at_ + (p.length : Int)) z out) m (by rw [addAt_length]; exact ho) (by simp at hp ⊢; omega) (by simp at hm; omega)
    have hadd : addAt (at_ + (p.length : Int)) z out = out:=by unfold addAt; rw [if_neg (by omega)]
    rw [hadd,hq] at step
    rw [hadd,decide_eq_false hc,br_f]
    simpa using step
theorem s_samples_loop (n : Nat) (track : Int) (M : Nat) (us : List T) (k : Nat) (hk : k ≤ 100000) (cs : List Eff) (hl : cs.length ≤ 100) (hcl : ∀ c ∈ cs,(0 ≤ c.len ∧ c.len ≤ 256) ∧ c.nums.length ≤ 256) (hn : 300 < n) : ∀ (j i m : Nat) (out : List Nat),i + j = cs.length → out.length = k → j < m →
  f68.l0 n m cs.length (effs cs) M us track (k : Int) k (fls .f32 out) (cs.length : Int) (i : Int) = some (k,fls .f32 (trackGo track 0 (cs.drop i) out)):=by
 intro j
 induction j with
 | zero =>
   intro i m out hi ho hm
   obtain ⟨m,rfl⟩ : ∃ k,m = k + 1:=⟨m - 1,by omega⟩
   rw [f68.l0,nlt_dec (by omega),List.drop_eq_nil_of_le (by omega)]; rfl
 | succ j ih =>
   intro i m out hi ho hm
   obtain ⟨m,rfl⟩ : ∃ k,m = k + 1:=⟨m - 1,by omega⟩
   have h : i < cs.length:=by omega
   obtain ⟨c1,c2⟩:=hcl _ (eAt_mem h)
   rw [f68.l0,lt_dec h,in_dec h,Int.toNat_natCast,okE h,eff_drop h,trackGo]
   simp only [br_t,Bool.and_self,gd_t,kE h,gE h,nE h,lE h,bd_s,wrap_succ (show i < 9223372036854775807 by omega)]
   by_cases hc : (eAt cs i).kind = track
   ·have e:=s_samples_clip n cs.length (effs cs) M us track k (eAt cs i).kind (eAt cs i).len (cs.length : Int) (i : Int) hk (by omega) (eAt cs i).nums [] out n ho (by simp; omega) (by omega)
    have e : f68.l1 n n cs.length (effs cs) M us track (k : Int) k (fls .f32 out) (eAt cs i).kind (eAt cs i).len (eAt cs i).nums.length (fls .f32 (eAt cs i).nums) (cs.length : Int) (i : Int) ((eAt cs i).nums.length : Int) 0 = _:=e
    rw [show ((eAt cs i).kind != track) = false by simp [hc],if_pos hc]
    simp only [br_f,e,bd_s,List.length_nil,Int.natCast_zero,Int.add_zero,Int.sub_zero,wrap_succ (show i < 9223372036854775807 by omega)]
    exact ih (i + 1) m _ (by omega) (by rw [addClip_length]; exact ho) (by omega)
   ·rw [show ((eAt cs i).kind != track) = true by simp [hc],if_neg hc]
    simp only [br_t]
    exact ih (i + 1) m out (by omega) ho (by omega)
theorem s_samples (n : Nat) (cs : List Eff) (M : Nat) (us : List T) (track : Int) (k : Nat) (hk : k ≤ 100000) (hl : cs.length ≤ 100) (hcl : ∀ c ∈ cs,(0 ≤ c.len ∧ c.len ≤ 256) ∧ c.nums.length ≤ 256) (hn : 300 < n) :
  f68 (n + 1) cs.length (effs cs) M us track (k : Int) = some (k,fls .f32 (trackGo track 0 cs (List.replicate k 0))):=by
 have e:=s_samples_loop n track M us k hk cs hl hcl hn cs.length 0 n (List.replicate k 0) (by omega) (by simp) (by omega)
 have e : f68.l0 n n cs.length (effs cs) M us track (k : Int) k (fls .f32 (List.replicate k 0)) (cs.length : Int) 0 = _:=e
 rw [f68,decide_eq_true (show (0 : Int) ≤ (k : Int) ∧ (k : Int) ≤ 2147483648 by omega),Int.toNat_natCast,reps_fls]
 simp only [gd_t,bd_s,e,List.drop_zero]
theorem i_state (n : Nat) {e : Ef} (h : e.Ok) : f109 (n + 2) e.eff.kind e.eff.len e.eff.nums.length (fls .f32 e.eff.nums) = some (e.keep,fls .f32 (newRow e)):=by
 rw [f109]
 cases e with
 | scale g => rfl
 | filt a b c d f =>
   have hz:=i_zeroed n 2 (by omega)
   simp only [Ef.eff,beq_self_eq_true,br_t,br_f]
   show bd (f93 (n + 1) ((2 : Nat) : Int)) _ = _
   rw [hz]; rfl
 | echo L p q =>
   have hL : 1 ≤ L ∧ L ≤ 32:=h
   have hz:=i_zeroed n L (by omega)
   simp only [Ef.eff,show ((2 : Int) == 1) = false from rfl,beq_self_eq_true,br_t,br_f,hz,bd_s]
   rfl
 | squeeze a b c d =>
   have hz:=i_zeroed n 1 (by omega)
   simp only [Ef.eff,show ((3 : Int) == 1) = false from rfl,show ((3 : Int) == 2) = false from rfl,beq_self_eq_true,br_t,br_f]
   show bd (f93 (n + 1) ((1 : Nat) : Int)) _ = _
   rw [hz]; rfl
 | clip g => rfl
 | bend => rfl
 | lim A k r =>
   have hA : A ≤ 32 ∧ W32 k ∧ _:=h
   have hz:=i_zeroed n A (by omega)
   have hb : Nat.ble (1 + A) 2147483648 = true:=by rw [Nat.ble_eq]; omega
   simp only [Ef.eff,show ((6 : Int) == 1) = false from rfl,show ((6 : Int) == 2) = false from rfl,show ((6 : Int) == 3) = false from rfl,beq_self_eq_true,br_t,br_f,hz,bd_s,hb,gd_t]
   rw [Nat.add_comm 1 A]
   rfl
theorem i_new_loop (n : Nat) (N : Nat) (ts : List T) (es : List Ef) (hl : es.length ≤ 100) (hok : ∀ e ∈ es,e.Ok) : ∀ (j i m : Nat) (P : List (List Nat)),i + j = es.length → P.length ≤ i → j < m →
  f73.l0 (n + 2) m N ts P.length (P.map rwF) es.length (effs (effL es)) (es.length : Int) (i : Int) = some ((P ++ (es.drop i).map newRow).length,(P ++ (es.drop i).map newRow).map rwF):=by
 intro j
 induction j with
 | zero =>
   intro i m P hi hP hm
   obtain ⟨m,rfl⟩ : ∃ k,m = k + 1:=⟨m - 1,by omega⟩
   rw [f73.l0,nlt_dec (by omega),List.drop_eq_nil_of_le (by omega)]
   simp [br]
 | succ j ih =>
   intro i m P hi hP hm
   obtain ⟨m,rfl⟩ : ∃ k,m = k + 1:=⟨m - 1,by omega⟩
   have h : i < es.length:=by omega
   have he : i < (effL es).length:=by rw [effL_length]; exact h
   have hE:=hok _ (efAt_mem h)
   have hp:=push_rw P (newRow (efAt es i))
   rw [newRow_length] at hp
   have step:=ih (i + 1) m (P ++ [newRow (efAt es i)]) (by omega) (by simp; omega) (by omega)
   rw [f73.l0,lt_dec h,in_dec h,Int.toNat_natCast,okE he,ef_drop h]
   simp only [br_t,Bool.and_self,gd_t,kE he,gE he,nE he,lE he,effL_at h,i_state n hE,bd_s,push_ok (show P.length < 2147483648 by omega),hp,wrap_succ (show i < 9223372036854775807 by omega)]
   rw [push_len (z:=newRow (efAt es i)),step]
   simp
theorem i_newstate (n : Nat) (es : List Ef) (hl : es.length ≤ 100) (hok : ∀ e ∈ es,e.Ok) (hn : 200 < n) : f73 (n + 3) es.length (effs (effL es)) = some ((es.map newRow).length,(es.map newRow).map rwF):=by
 have e:=i_new_loop n es.length (effs (effL es)) es hl hok es.length 0 (n + 2) [] (by omega) (by simp) (by omega)
 have e : f73.l0 (n + 2) (n + 2) es.length (effs (effL es)) 0 [] es.length (effs (effL es)) (es.length : Int) 0 = _:=e
 rw [f73,e]
 simp only [bd_s,List.drop_zero,List.nil_append]
theorem s_newstate (n : Nat) (es : List Ef) (hl : es.length ≤ 100) (hok : ∀ e ∈ es,e.Ok) (hn : 200 < n) : f67 (n + 2) es.length (effs (effL es)) = some ((es.map newRow).length,(es.map newRow).map rwF):=by
 have e:=s_new_loop n es hl hok es.length 0 (n + 1) [] (by omega) (by simp) (by omega)
 have e : f67.l0 (n + 1) (n + 1) es.length (effs (effL es)) 0 (reps 0 [(T.lst 0 [])]) 0 = _:=e
 rw [f67,e]
 simp only [bd_s,List.drop_zero,List.nil_append]
def chanM (es : List Ef) (track : Int) (cl : List Eff) (k : Nat) : List Nat:=(chainGo es (es.map newRow) (trackGo track 0 cl (List.replicate k 0))).1
theorem allW_zeros (k : Nat) : AllW (List.replicate k 0):=fun y hy => by
 obtain ⟨-,rfl⟩:=List.mem_replicate.1 hy; exact w32_zero
theorem chan_facts {es : List Ef} (ho : ∀ e ∈ es,e.Ok) (track : Int) (cl : List Eff) (k : Nat) : (chanM es track cl k).length = k ∧ AllW (chanM es track cl k):=by
 obtain ⟨h1,-,h3⟩:=chain_fit es (es.map newRow) (trackGo track 0 cl (List.replicate k 0)) ho (new_ok es).fits (trackGo_w32 _ _ _ _ (allW_zeros k))
 exact ⟨by unfold chanM; rw [h3,trackGo_length,List.length_replicate],h1⟩
structure SOk (cl : List Eff) (ss : List Strp) : Prop where
 n : 1 ≤ ss.length ∧ ss.length ≤ 8
 c : cl.length ≤ 12
 s : ∀ s ∈ ss,chainB s.es = true ∧ (-2000 ≤ s.tn ∧ s.tn ≤ 2000) ∧ panB s.pan = true
 k : ∀ c ∈ cl,(0 ≤ c.kind ∧ c.kind ≤ (ss.length : Int) - 1) ∧ (0 ≤ c.len ∧ c.len ≤ 256) ∧ c.nums.length ≤ 256
theorem sess_ok {cl : List Eff} {ss : List Strp} (h : sessB cl ss = true) : SOk cl ss:=by
 unfold sessB at h
 simp only [Bool.and_eq_true,decide_eq_true_eq,List.all_eq_true] at h
 obtain ⟨h1,h2,h3,h4⟩:=h
 refine ⟨h1,h2,fun s hs => ?_,fun c hc => ?_⟩
 ·have:=h3 s hs
  unfold stB at this
  simp only [Bool.and_eq_true,decide_eq_true_eq] at this
  exact ⟨this.1,this.2.1,this.2.2⟩
 ·have:=h4 c hc
  unfold clB at this
  simp only [Bool.and_eq_true,decide_eq_true_eq] at this
  exact ⟨this.1,this.2.1,this.2.2⟩
structure GoodS (cl : List Eff) (ss : List Strp) : Prop where
 c : ∀ c ∈ cl,GoodE c
 s : ∀ s ∈ ss,(∀ e ∈ s.es,GoodE e) ∧ GoodI .i64 s.tn ∧ W32 s.pan
theorem strip_efs {cl : List Eff} {ss : List Strp} (h : SOk cl ss) (hg : GoodS cl ss) {s : Strp} (hs : s ∈ ss) : ∃ es : List Ef,effL es = s.es ∧ (∀ e ∈ es,e.Ok) ∧ es.length ≤ 8:=by
 have h1:=(h.s s hs).1
 unfold chainB at h1
 simp only [Bool.and_eq_true,decide_eq_true_eq] at h1
 obtain ⟨es,e1,e2⟩:=efs_of h1.2 (hg.s s hs).1
 exact ⟨es,e1,e2,by rw [← effL_length,e1]; exact h1.1⟩
theorem i_channel (n : Nat) (hn : 1000 < n) {cl : List Eff} {ss : List Strp} (h : SOk cl ss) (i k : Nat) (hi : i < ss.length) (hk : k ≤ 256) (es : List Ef) (he : effL es = (sAt5 ss i).es) (ho : ∀ e ∈ es,e.Ok) (hl : es.length ≤ 8) :
  f34 (n + 104) cl.length (effs cl) ss.length (strps ss) (i : Int) (k : Int) = some (k,fls .f32 (chanM es (i : Int) cl k)):=by
 have hcl : ∀ c ∈ cl,(0 ≤ c.len ∧ c.len ≤ 256) ∧ c.nums.length ≤ 256:=fun c hc => (h.k c hc).2
 have hc:=h.c
 have e1:=i_newstate (n + 100) es (by omega) ho (by omega)
 have e1 : f73 (n + 103) es.length (effs (effL es)) = _:=e1
 have e2:=i_samples (n + 101) cl ss.length (strps ss) (i : Int) 0 k (by omega) (by omega) (by omega) hcl (by omega)
 have e2 : f57 (n + 103) cl.length (effs cl) ss.length (strps ss) (i : Int) 0 (k : Int) = _:=e2
 have e3:=i_runchain_ n (by omega) es (by omega) ho (es.map newRow) (new_ok es).fits (trackGo (i : Int) 0 cl (List.replicate k 0)) (trackGo_w32 _ _ _ _ (allW_zeros k)) (by rw [trackGo_length,List.length_replicate]; exact hk)
 have hlen:=(chan_facts ho (i : Int) cl k).1
 rw [trackGo_length,List.length_replicate] at e3
 have hle : (sAt5 ss i).es.length = es.length:=by rw [← he,effL_length]
 rw [f34,in_dec hi,Int.toNat_natCast,okS5 hi]
 simp only [Bool.and_self,gd_t,nS5 hi,lS5 hi]
 rw [hle,← he]
 simp only [e1,e2,e3,bd_s]
 rw [show (chainGo es (es.map newRow) (trackGo (i : Int) 0 cl (List.replicate k 0))).1 = chanM es (i : Int) cl k from rfl,hlen]
theorem s_channel (n : Nat) (hn : 1000 < n) {cl : List Eff} {ss : List Strp} (h : SOk cl ss) (i k : Nat) (hi : i < ss.length) (hk : k ≤ 256) (es : List Ef) (he : effL es = (sAt5 ss i).es) (ho : ∀ e ∈ es,e.Ok) (hl : es.length ≤ 8) :
  f30 (n + 104) cl.length (effs cl) ss.length (strps ss) (i : Int) (k : Int) = some (k,fls .f32 (chanM es (i : Int) cl k)):=by
 have hcl : ∀ c ∈ cl,(0 ≤ c.len ∧ c.len ≤ 256) ∧ c.nums.length ≤ 256:=fun c hc => (h.k c hc).2
 have hc:=h.c
 have e1:=s_newstate (n + 101) es (by omega) ho (by omega)
 have e1 : f67 (n + 103) es.length (effs (effL es)) = _:=e1
 have e2:=s_samples (n + 102) cl ss.length (strps ss) (i : Int) k (by omega) (by omega) hcl (by omega)
 have e2 : f68 (n + 103) cl.length (effs cl) ss.length (strps ss) (i : Int) (k : Int) = _:=e2
 have e3:=s_runchain n (by omega) es (by omega) ho (es.map newRow) (new_ok es).fits (trackGo (i : Int) 0 cl (List.replicate k 0)) (trackGo_w32 _ _ _ _ (allW_zeros k)) (by rw [trackGo_length,List.length_replicate]; exact hk)
 have hlen:=(chan_facts ho (i : Int) cl k).1
 rw [trackGo_length,List.length_replicate] at e3
 have hle : (sAt5 ss i).es.length = es.length:=by rw [← he,effL_length]
 rw [f30,in_dec hi,Int.toNat_natCast,okS5 hi]
 simp only [Bool.and_self,gd_t,nS5 hi,lS5 hi]
 rw [hle,← he]
 simp only [e1,e2,e3,bd_s]
 rw [show (chainGo es (es.map newRow) (trackGo (i : Int) 0 cl (List.replicate k 0))).1 = chanM es (i : Int) cl k from rfl,hlen]
theorem copy_loop (n : Nat) (xs : List Nat) (hx : xs.length ≤ 1048576) : ∀ (j i m : Nat) (ys : List Nat),ys.length = xs.length → i + j = xs.length → j < m →
  f106.l0 n m xs.length (fls .f32 xs) xs.length (fls .f32 (xs.take i ++ ys.drop i)) (i : Int) = some (xs.length,fls .f32 xs):=by
 intro j
 induction j with
 | zero =>
   intro i m ys hl hi hm
   obtain ⟨m,rfl⟩ : ∃ k,m = k + 1:=⟨m - 1,by omega⟩
   rw [f106.l0,nlt_dec (by omega)]
   simp only [br]
   rw [List.take_of_length_le (by omega),List.drop_eq_nil_of_le (by omega),List.append_nil]
 | succ j ih =>
   intro i m ys hl hi hm
   obtain ⟨m,rfl⟩ : ∃ k,m = k + 1:=⟨m - 1,by omega⟩
   have hlt : i < xs.length:=by omega
   rw [f106.l0,lt_dec hlt,in_dec hlt,Int.toNat_natCast,okAt_fls hlt,wrap_succ (by omega)]
   have hlen : Nat.ble (i + 1) (fls .f32 (xs.take i ++ ys.drop i)).length = true:=by
    rw [Nat.ble_eq,fls_length]; simp; omega
   rw [hlen]
   simp only [br,gd,Bool.and_self]
   rw [setN_one,fAt_fls,set_fls]
   have : xs.getD i 0 = xs[i]:=by simp [List.getD,hlt]
   rw [this,take_set_drop hlt hl]
   exact ih (i + 1) m ys hl (by omega) (by omega)
theorem copied (n : Nat) (xs : List Nat) (hx : xs.length ≤ 1048576) (hn : xs.length < n) : f106 (n + 1) xs.length (fls .f32 xs) = some (xs.length,fls .f32 xs):=by
 rw [f106]
 have h:=copy_loop n xs hx xs.length 0 n (List.replicate xs.length 0) (by simp) (by omega) hn
 rw [List.take_zero,List.drop_zero,List.nil_append] at h
 have e : decide ((0 : Int) ≤ ((xs.length : Nat) : Int) ∧ ((xs.length : Nat) : Int) ≤ (2147483648 : Int)) = true:=by simp; omega
 rw [reps_fls,e]
 simp only [gd]
 rw [show ((0 : Nat) : Int) = 0 from rfl] at h
 rw [h]; rfl
theorem same_self (n y : Nat) : f35 (n + 1) y y = some true:=by
 unfold f35
 simp only [fne_feq]
 cases h : feq FloatKind.f64 y y
 ·simp [br]
 ·cases h0 : feq FloatKind.f64 y 0 <;> simp [br]
theorem eq_loop (n : Nat) (xs : List Nat) (hx : xs.length ≤ 2147483648) : ∀ (j i m : Nat),i + j = xs.length → j < m →
  f10.l0 (n + 1) m xs.length (fls .f32 xs) xs.length (fls .f32 xs) (i : Int) = some (Sum.inr ()):=by
 intro j
 induction j with
 | zero =>
   intro i m hi hm
   obtain ⟨m,rfl⟩ : ∃ k,m = k + 1:=⟨m - 1,by omega⟩
   rw [f10.l0,nlt_dec (by omega)]
   rfl
 | succ j ih =>
   intro i m hi hm
   obtain ⟨m,rfl⟩ : ∃ k,m = k + 1:=⟨m - 1,by omega⟩
   have hlt : i < xs.length:=by omega
   rw [f10.l0,lt_dec hlt,in_dec hlt,Int.toNat_natCast,okAt_fls hlt,wrap_succ (by omega),fltToFlt_wide]
   simp only [br,gd,bd,Bool.and_self,same_self,Bool.not_true]
   exact ih (i + 1) m (by omega) (by omega)
theorem eq_self (n : Nat) (xs : List Nat) (hx : xs.length ≤ 2147483648) (hn : xs.length < n + 1) : f10 (n + 2) xs.length (fls .f32 xs) xs.length (fls .f32 xs) = some true:=by
 rw [f10]
 have h:=eq_loop n xs hx xs.length 0 (n + 1) (by omega) hn
 rw [show ((0 : Nat) : Int) = 0 from rfl] at h
 rw [h,show (((xs.length : Nat) : Int) != ((xs.length : Nat) : Int)) = false by simp]
 rfl
theorem mark32_loop (n : Nat) (xs : List Nat) (hx : xs.length ≤ 2147483648) (s : Int) (hs : 0 ≤ s) (hs' : s ≤ 1099511627776) : ∀ (j i m : Nat),i + j = xs.length → j < m →
  f13.l0 n m xs.length (fls .f32 ((marksF .f32 s xs.length).take i ++ xs.drop i)) (s + (i : Int)) (i : Int) = some (xs.length,fls .f32 (marksF .f32 s xs.length),s + (xs.length : Int)):=by
 intro j
 induction j with
 | zero =>
   intro i m hi hm
   obtain ⟨m,rfl⟩ : ∃ k,m = k + 1:=⟨m - 1,by omega⟩
   have hi : i = xs.length:=by omega
   subst hi
   rw [f13.l0,nlt_dec (by omega)]
   simp only [br]
   rw [List.take_of_length_le (by rw [marksF_length]; omega),List.drop_eq_nil_of_le (by omega),List.append_nil]
 | succ j ih =>
   intro i m hi hm
   obtain ⟨m,rfl⟩ : ∃ k,m = k + 1:=⟨m - 1,by omega⟩
   have hlt : i < xs.length:=by omega
   have hlt' : i < (marksF .f32 s xs.length).length:=by rw [marksF_length]; exact hlt
   have hlen : Nat.ble (i + 1) (fls .f32 ((marksF .f32 s xs.length).take i ++ xs.drop i)).length = true:=by
    apply le_ble
    rw [fls_length,List.length_append,List.length_take,List.length_drop,marksF_length]; omega
   rw [f13.l0,lt_dec hlt,in_dec hlt,Int.toNat_natCast,wrap_succ (by omega),hlen]
   simp only [br,gd]
   rw [setN_one,set_fls,show IntKind.i64.wrap (s + (i : Int) + 1) = s + ((i + 1 : Nat) : Int) by rw [wrap64] <;> omega,← marksF_at hlt',take_set_drop hlt' (by rw [marksF_length])]
   exact ih (i + 1) m (by omega) (by omega)
theorem mark32 (n : Nat) (xs : List Nat) (hx : xs.length ≤ 2147483648) (s : Int) (hs : 0 ≤ s) (hs' : s ≤ 1099511627776) (hn : xs.length < n) :
  f13 (n + 1) xs.length (fls .f32 xs) s = some (s + (xs.length : Int),xs.length,fls .f32 (marksF .f32 s xs.length)):=by
 rw [f13]
 have h:=mark32_loop n xs hx s hs hs' xs.length 0 n (by omega) hn
 rw [List.take_zero,List.drop_zero,List.nil_append,show ((0 : Nat) : Int) = 0 from rfl,Int.add_zero] at h
 rw [h]; rfl
theorem held32_loop (n l : Nat) (hx : l ≤ 2147483648) (s : Int) (hs : 0 ≤ s) (hs' : s ≤ 1099511627776) : ∀ (j i m : Nat),i + j = l → j < m →
  f14.l0 n m l (fls .f32 (marksF .f32 s l)) (s + (i : Int)) (i : Int) = some (Sum.inr (s + (l : Int))):=by
 intro j
 induction j with
 | zero =>
   intro i m hi hm
   obtain ⟨m,rfl⟩ : ∃ k,m = k + 1:=⟨m - 1,by omega⟩
   have hi : i = l:=by omega
   subst hi
   rw [f14.l0,nlt_dec (by omega)]
   rfl
 | succ j ih =>
   intro i m hi hm
   obtain ⟨m,rfl⟩ : ∃ k,m = k + 1:=⟨m - 1,by omega⟩
   have hlt : i < l:=by omega
   rw [f14.l0,lt_dec hlt,in_dec hlt,Int.toNat_natCast,wrap_succ (by omega),okAt_fls (by rw [marksF_length]; exact hlt),fAt_fls,marksF_get hlt,nearest_fne,
    show IntKind.i64.wrap (s + (i : Int) + 1) = s + ((i + 1 : Nat) : Int) by rw [wrap64] <;> omega]
   simp only [br,gd,Bool.and_self]
   exact ih (i + 1) m (by omega) (by omega)
theorem held32 (n l : Nat) (hx : l ≤ 2147483648) (s : Int) (hs : 0 ≤ s) (hs' : s ≤ 1099511627776) (hn : l < n) :
  f14 (n + 1) l (fls .f32 (marksF .f32 s l)) s = some (s + (l : Int)):=by
 rw [f14]
 have h:=held32_loop n l hx s hs hs' l 0 n (by omega) hn
 rw [show ((0 : Nat) : Int) = 0 from rfl,Int.add_zero] at h
 rw [h]; rfl
theorem rows_set {α : Type} {f : α → List T} {w : Nat} (hf : ∀ x,(f x).length = w) (d : α) : ∀ (ts : List α) (i c : Nat) (v : T) (y : α),i < ts.length → c < w → f y = (f (ts.getD i d)).set c v → (ts.flatMap f).set (i * w + c) v = (ts.set i y).flatMap f
 | [],i,c,v,y,h,_,_ => by simp at h
 | t :: ts,0,c,v,y,_,hc,hy => by
   simp only [List.flatMap_cons,List.set_cons_zero,Nat.zero_mul,Nat.zero_add]
   rw [List.set_append_left _ _ (by rw [hf]; exact hc),hy]; rfl
 | t :: ts,i + 1,c,v,y,h,hc,hy => by
   simp only [List.flatMap_cons,List.set_cons_succ]
   have e : (i + 1) * w + c = w + (i * w + c):=by rw [Nat.add_mul]; omega
   rw [List.set_append_right _ _ (by rw [hf,e]; omega),hf,show (i + 1) * w + c - w = i * w + c by omega,rows_set hf d ts i c v y (by simpa using h) hc (by simpa using hy)]
theorem effC_length (e : Eff) : (effC e).length = 3:=rfl
theorem stC_length (s : Strp) : (stC s).length = 5:=rfl
theorem effs_length (ts : List Eff) : (effs ts).length = 3 * ts.length:=by
 unfold effs
 induction ts with
 | nil => rfl
 | cons t ts ih => rw [List.flatMap_cons,List.length_append,ih,effC_length,List.length_cons]; omega
theorem strps_length (ts : List Strp) : (strps ts).length = 5 * ts.length:=by
 unfold strps
 induction ts with
 | nil => rfl
 | cons t ts ih => rw [List.flatMap_cons,List.length_append,ih,stC_length,List.length_cons]; omega
theorem eff_row {ts : List Eff} {i : Nat} (h : i < ts.length) (e : Eff) : setN (effs ts) (i * 3 + 0) [.int .i64 e.kind,.int .i64 e.len,.lst e.nums.length (fls .f32 e.nums)] = effs (ts.set i e):=by
 show (((effs ts).set (i * 3 + 0) _).set (i * 3 + 0 + 1) _).set (i * 3 + 0 + 1 + 1) _ = _
 unfold effs
 rw [rows_set effC_length ⟨5,0,[]⟩ ts i 0 (.int .i64 e.kind) ⟨e.kind,(eAt ts i).len,(eAt ts i).nums⟩ h (by decide) rfl,
  show i * 3 + 0 + 1 = i * 3 + 1 from rfl,rows_set effC_length ⟨5,0,[]⟩ _ i 1 (.int .i64 e.len) ⟨e.kind,e.len,(eAt ts i).nums⟩ (by simpa using h) (by decide) (by simp [List.getD,h]; rfl),
  show i * 3 + 1 + 1 = i * 3 + 2 from rfl,rows_set effC_length ⟨5,0,[]⟩ _ i 2 (.lst e.nums.length (fls .f32 e.nums)) e (by simpa using h) (by decide) (by simp [List.getD,h]; rfl)]
 simp
theorem st_row {ts : List Strp} {i : Nat} (h : i < ts.length) (s : Strp) : setN (strps ts) (i * 5 + 0) [.lst s.es.length (effs s.es),.int .i64 s.tn,.flt .f32 s.pan,.bool s.mute,.bool s.solo] = strps (ts.set i s):=by
 show (((((strps ts).set (i * 5 + 0) _).set (i * 5 + 0 + 1) _).set (i * 5 + 0 + 1 + 1) _).set (i * 5 + 0 + 1 + 1 + 1) _).set (i * 5 + 0 + 1 + 1 + 1 + 1) _ = _
 unfold strps
 rw [rows_set stC_length ⟨[],0,0,false,false⟩ ts i 0 (.lst s.es.length (effs s.es)) ⟨s.es,(sAt5 ts i).tn,(sAt5 ts i).pan,(sAt5 ts i).mute,(sAt5 ts i).solo⟩ h (by decide) rfl,
  show i * 5 + 0 + 1 = i * 5 + 1 from rfl,rows_set stC_length ⟨[],0,0,false,false⟩ _ i 1 (.int .i64 s.tn) ⟨s.es,s.tn,(sAt5 ts i).pan,(sAt5 ts i).mute,(sAt5 ts i).solo⟩ (by simpa using h) (by decide) (by simp [List.getD,h]; rfl),
  show i * 5 + 1 + 1 = i * 5 + 2 from rfl,rows_set stC_length ⟨[],0,0,false,false⟩ _ i 2 (.flt .f32 s.pan) ⟨s.es,s.tn,s.pan,(sAt5 ts i).mute,(sAt5 ts i).solo⟩ (by simpa using h) (by decide) (by simp [List.getD,h]; rfl),
  show i * 5 + 2 + 1 = i * 5 + 3 from rfl,rows_set stC_length ⟨[],0,0,false,false⟩ _ i 3 (.bool s.mute) ⟨s.es,s.tn,s.pan,s.mute,(sAt5 ts i).solo⟩ (by simpa using h) (by decide) (by simp [List.getD,h]; rfl),
  show i * 5 + 3 + 1 = i * 5 + 4 from rfl,rows_set stC_length ⟨[],0,0,false,false⟩ _ i 4 (.bool s.solo) s (by simpa using h) (by decide) (by simp [List.getD,h]; rfl)]
 simp
theorem reps_effs (n : Nat) : reps n [(T.int .i64 (0 : Int)),(T.int .i64 (0 : Int)),(T.lst 0 [])] = effs (List.replicate n ⟨0,0,[]⟩):=by
 induction n with
 | zero => rfl
 | succ n ih => rw [List.replicate_succ,show effs (⟨0,0,[]⟩ :: List.replicate n ⟨0,0,[]⟩) = effC ⟨0,0,[]⟩ ++ effs (List.replicate n ⟨0,0,[]⟩) from rfl,← ih]; rfl
theorem reps_strps (n : Nat) : reps n [(T.lst 0 []),(T.int .i64 (0 : Int)),(T.flt .f32 0),(T.bool false),(T.bool false)] = strps (List.replicate n ⟨[],0,0,false,false⟩):=by
 induction n with
 | zero => rfl
 | succ n ih => rw [List.replicate_succ,show strps (⟨[],0,0,false,false⟩ :: List.replicate n ⟨[],0,0,false,false⟩) = stC ⟨[],0,0,false,false⟩ ++ strps (List.replicate n ⟨[],0,0,false,false⟩) from rfl,← ih]; rfl
def szE : List Eff → Nat
 | [] => 0
 | e :: es => 1 + e.nums.length + szE es
def szSt : List Strp → Nat
 | [] => 0
 | s :: ss => 1 + szE s.es + szSt ss
theorem szE_len : ∀ (es : List Eff),es.length ≤ szE es
 | [] => Nat.le_refl _
 | e :: es => by have:=szE_len es; simp only [List.length_cons,szE]; omega
theorem szE_num : ∀ (es : List Eff) (e : Eff),e ∈ es → e.nums.length ≤ szE es
 | e :: es,f,h => by
   rcases List.mem_cons.1 h with rfl | h
   ·simp only [szE]; omega
   ·have:=szE_num es f h; simp only [szE]; omega
theorem szSt_len : ∀ (es : List Strp),es.length ≤ szSt es
 | [] => Nat.le_refl _
 | e :: es => by have:=szSt_len es; simp only [List.length_cons,szSt]; omega
theorem szSt_es : ∀ (es : List Strp) (s : Strp),s ∈ es → szE s.es ≤ szSt es
 | e :: es,f,h => by
   rcases List.mem_cons.1 h with rfl | h
   ·simp only [szSt]; omega
   ·have:=szSt_es es f h; simp only [szSt]; omega
def nmE : List Eff → Nat
 | [] => 0
 | e :: es => e.nums.length + nmE es
theorem szE_nm : ∀ (es : List Eff),szE es = es.length + nmE es
 | [] => rfl
 | e :: es => by rw [szE,szE_nm es,nmE,List.length_cons]; omega
def nmSt : List Strp → Nat
 | [] => 0
 | s :: ss => szE s.es + nmSt ss
theorem szSt_nm : ∀ (es : List Strp),szSt es = es.length + nmSt es
 | [] => rfl
 | e :: es => by rw [szSt,szSt_nm es,nmSt,List.length_cons]; omega
def leftM (left : Int) (k : Nat) : Int:=if (k : Int) ≤ left then left - k else -1
theorem sz32 (n : Nat) (xs : List Nat) (hx : xs.length ≤ 9223372036854775807) (left : Int) (h0 : 0 ≤ left) (h1 : left ≤ 1048576) : f100 (n + 1) xs.length (fls .f32 xs) left = some (leftM left xs.length):=by
 rw [f100,show IntKind.i64.wrap (left - (xs.length : Int)) = left - (xs.length : Int) by rw [wrap64] <;> omega]
 unfold leftM
 by_cases h : (xs.length : Int) ≤ left
 ·rw [decide_eq_false (by omega),if_pos h]; rfl
 ·rw [decide_eq_true (by omega),if_neg h]; rfl
theorem leftM_neg {left : Int} {k : Nat} (h0 : 0 ≤ left) : decide (leftM left k < 0) = !decide ((k : Int) ≤ left):=by
 unfold leftM
 split
 ·rename_i h; rw [decide_eq_true h]; exact decide_eq_false (by omega)
 ·rename_i h; rw [decide_eq_false h]; rfl
def marksE : Int → List Eff → List Eff
 | _,[] => []
 | s,e :: es => ⟨s,s + 1,marksF .f32 (s + 2) e.nums.length⟩ :: marksE (s + 2 + (e.nums.length : Int)) es
theorem marksE_length : ∀ (es : List Eff) (s : Int),(marksE s es).length = es.length
 | [],_ => rfl
 | e :: es,s => by simp [marksE,marksE_length es]
theorem sz1_e (n : Nat) (e : Eff) (hx : e.nums.length ≤ 9223372036854775807) (left : Int) (h0 : 0 ≤ left) (h1 : left ≤ 1048576) : f120 (n + 2) e.kind e.len e.nums.length (fls .f32 e.nums) left = some (leftM left e.nums.length):=by
 rw [f120,sz32 n e.nums hx left h0 h1]
 simp only [bd_s,leftM_neg h0]
 by_cases h : (e.nums.length : Int) ≤ left
 ·rw [decide_eq_true h]; rfl
 ·rw [decide_eq_false h]; unfold leftM; rw [if_neg h]; rfl
theorem szl_e (n : Nat) (es : List Eff) (hx : ∀ e ∈ es,e.nums.length ≤ 9223372036854775807) (hl : es.length ≤ 1048576) : ∀ (j i m : Nat) (left : Int),0 ≤ left → left ≤ 1048576 → i + j = es.length → j < m →
  f101.l0 (n + 2) m es.length (effs es) left (i : Int) = some (if (nmE (es.drop i) : Int) ≤ left then Sum.inr (left - (nmE (es.drop i) : Int)) else Sum.inl (-1)):=by
 intro j
 induction j with
 | zero =>
   intro i m left h0 h1 hi hm
   obtain ⟨m,rfl⟩ : ∃ k,m = k + 1:=⟨m - 1,by omega⟩
   rw [f101.l0,nlt_dec (by omega),List.drop_eq_nil_of_le (by omega)]
   simp [br,nmE,h0]
 | succ j ih =>
   intro i m left h0 h1 hi hm
   obtain ⟨m,rfl⟩ : ∃ k,m = k + 1:=⟨m - 1,by omega⟩
   have h : i < es.length:=by omega
   have e1:=sz1_e n (eAt es i) (hx _ (eAt_mem h)) left h0 h1
   rw [f101.l0,lt_dec h,in_dec h,Int.toNat_natCast,okE h,eff_drop h,nmE]
   simp only [br_t,Bool.and_self,gd_t,kE h,gE h,nE h,lE h,e1,bd_s,leftM_neg h0,wrap_succ (show i < 9223372036854775807 by omega)]
   by_cases hc : ((eAt es i).nums.length : Int) ≤ left
   ·rw [decide_eq_true hc]
    simp only [Bool.not_true,br_f]
    have hL : leftM left (eAt es i).nums.length = left - ((eAt es i).nums.length : Int):=by unfold leftM; rw [if_pos hc]
    rw [hL,ih (i + 1) m _ (by omega) (by omega) (by omega) (by omega)]
    congr 1
    by_cases h2 : (nmE (es.drop (i + 1)) : Int) ≤ left - ((eAt es i).nums.length : Int)
    ·rw [if_pos h2,if_pos (by omega)]; congr 1; omega
    ·rw [if_neg h2,if_neg (by omega)]
   ·rw [decide_eq_false hc,if_neg (by omega)]; rfl
theorem szs_e (n : Nat) (es : List Eff) (hx : ∀ e ∈ es,e.nums.length ≤ 9223372036854775807) (hx2 : es.length ≤ 9223372036854775807) (left : Int) (h0 : 0 ≤ left) (h1 : left ≤ 1048576) (hn : 1048577 < n) :
  f101 (n + 3) es.length (effs es) left = some (leftM left (szE es)):=by
 rw [f101,show IntKind.i64.wrap (left - (es.length : Int)) = left - (es.length : Int) by rw [wrap64] <;> omega,szE_nm]
 unfold leftM
 by_cases h : (es.length : Int) ≤ left
 ·have e:=szl_e n es hx (by omega) es.length 0 (n + 2) (left - (es.length : Int)) (by omega) (by omega) (by omega) (by omega)
  have e : f101.l0 (n + 2) (n + 2) es.length (effs es) (left - (es.length : Int)) 0 = _:=e
  rw [decide_eq_false (by omega),e,List.drop_zero]
  by_cases h2 : (nmE es : Int) ≤ left - (es.length : Int)
  ·rw [if_pos h2,if_pos (by omega)]
   simp only [br_f,bd_s,sm_r]
   congr 1; omega
  ·rw [if_neg h2,if_neg (by omega)]; rfl
 ·rw [decide_eq_true (by omega),if_neg (by omega)]; rfl
theorem to1_e (n : Nat) (e : Eff) (hx : e.nums.length ≤ 1048576) (hn : 1048576 < n) : f129 (n + 2) e.kind e.len e.nums.length (fls .f32 e.nums) = some (e.kind,e.len,e.nums.length,fls .f32 e.nums):=by
 rw [f129,copied n e.nums hx (by omega)]; rfl
theorem tol_e (n : Nat) (es : List Eff) (hx : ∀ e ∈ es,e.nums.length ≤ 1048576) (hl : es.length ≤ 1048576) (hn : 1048576 < n) : ∀ (j i m : Nat) (ys : List Eff),ys.length = es.length → i + j = es.length → j < m →
  f107.l0 (n + 2) m es.length (effs es) es.length (effs (es.take i ++ ys.drop i)) (i : Int) = some (es.length,effs es):=by
 intro j
 induction j with
 | zero =>
   intro i m ys hy hi hm
   obtain ⟨m,rfl⟩ : ∃ k,m = k + 1:=⟨m - 1,by omega⟩
   rw [f107.l0,nlt_dec (by omega),List.take_of_length_le (by omega),List.drop_eq_nil_of_le (by omega),List.append_nil]; rfl
 | succ j ih =>
   intro i m ys hy hi hm
   obtain ⟨m,rfl⟩ : ∃ k,m = k + 1:=⟨m - 1,by omega⟩
   have h : i < es.length:=by omega
   have hlen : (es.take i ++ ys.drop i).length = es.length:=by rw [List.length_append,List.length_take,List.length_drop]; omega
   have h' : i < (es.take i ++ ys.drop i).length:=by omega
   have hb : Nat.ble (i * 3 + 0 + 3) (effs (es.take i ++ ys.drop i)).length = true:=by rw [effs_length,hlen]; exact le_ble (by omega)
   have hset : (es.take i ++ ys.drop i).set i (eAt es i) = es.take (i + 1) ++ ys.drop (i + 1):=by
    have : eAt es i = es[i]:=by simp [eAt,List.getD,h]
    rw [this]; exact take_set_drop h hy
   rw [f107.l0,lt_dec h,in_dec h,Int.toNat_natCast,okE h]
   simp only [br_t,Bool.and_self,gd_t,kE h,gE h,nE h,lE h,to1_e n (eAt es i) (hx _ (eAt_mem h)) hn,bd_s,hb,eff_row h' (eAt es i),hset,wrap_succ (show i < 9223372036854775807 by omega)]
   exact ih (i + 1) m ys hy (by omega) (by omega)
theorem tos_e (n : Nat) (es : List Eff) (hx : ∀ e ∈ es,e.nums.length ≤ 1048576) (hl : es.length ≤ 1048576) (hn : 1048576 < n) : f107 (n + 3) es.length (effs es) = some (es.length,effs es):=by
 have e:=tol_e n es hx hl hn es.length 0 (n + 2) (List.replicate es.length ⟨0,0,[]⟩) (by simp) (by omega) (by omega)
 rw [List.take_zero,List.drop_zero,List.nil_append] at e
 have e : f107.l0 (n + 2) (n + 2) es.length (effs es) es.length (effs (List.replicate es.length ⟨0,0,[]⟩)) 0 = _:=e
 rw [f107,decide_eq_true (show (0 : Int) ≤ (es.length : Int) ∧ (es.length : Int) ≤ 2147483648 by omega),reps_effs]
 simp only [gd_t,e,bd_s]
theorem eq1_e (n : Nat) (e : Eff) (hx : e.nums.length ≤ 1048576) (hn : 1048576 < n) : f138 (n + 3) e.kind e.len e.nums.length (fls .f32 e.nums) e.kind e.len e.nums.length (fls .f32 e.nums) = some true:=by
 rw [f138,eq_self n e.nums (by omega) (by omega)]
 simp only [bne_self_eq_false,br_f,bd_s,Bool.not_true]
theorem eql_e (n : Nat) (es : List Eff) (hx : ∀ e ∈ es,e.nums.length ≤ 1048576) (hl : es.length ≤ 1048576) (hn : 1048576 < n) : ∀ (j i m : Nat),i + j = es.length → j < m →
  f110.l0 (n + 3) m es.length (effs es) es.length (effs es) (i : Int) = some (Sum.inr ()):=by
 intro j
 induction j with
 | zero =>
   intro i m hi hm
   obtain ⟨m,rfl⟩ : ∃ k,m = k + 1:=⟨m - 1,by omega⟩
   rw [f110.l0,nlt_dec (by omega)]; rfl
 | succ j ih =>
   intro i m hi hm
   obtain ⟨m,rfl⟩ : ∃ k,m = k + 1:=⟨m - 1,by omega⟩
   have h : i < es.length:=by omega
   rw [f110.l0,lt_dec h,in_dec h,Int.toNat_natCast,okE h]
   simp only [br_t,Bool.and_self,gd_t,kE h,gE h,nE h,lE h,eq1_e n (eAt es i) (hx _ (eAt_mem h)) hn,bd_s,Bool.not_true,br_f,wrap_succ (show i < 9223372036854775807 by omega)]
   exact ih (i + 1) m (by omega) (by omega)
theorem eqs_e (n : Nat) (es : List Eff) (hx : ∀ e ∈ es,e.nums.length ≤ 1048576) (hl : es.length ≤ 1048576) (hn : 1048576 < n) : f110 (n + 4) es.length (effs es) es.length (effs es) = some true:=by
 have e:=eql_e n es hx hl hn es.length 0 (n + 3) (by omega) (by omega)
 have e : f110.l0 (n + 3) (n + 3) es.length (effs es) es.length (effs es) 0 = _:=e
 rw [f110]
 simp only [bne_self_eq_false,br_f,e,bd_s,sm_r]
theorem mkl_e (n : Nat) (hn : 1048576 < n) : ∀ (zs p : List Eff) (s : Int) (m : Nat),(∀ e ∈ zs,e.nums.length ≤ 1048576) → 0 ≤ s → s + 2 * (zs.length : Int) + (nmE zs : Int) ≤ 1099511627776 → p.length + zs.length ≤ 1048576 → zs.length < m →
  f76.l0 (n + 1) m (p ++ zs).length (effs (p ++ zs)) s (p.length : Int) = some ((p ++ zs).length,effs (p ++ marksE s zs),s + 2 * (zs.length : Int) + (nmE zs : Int)):=by
 intro zs
 induction zs with
 | nil =>
   intro p s m _ _ _ _ hm
   obtain ⟨m,rfl⟩ : ∃ k,m = k + 1:=⟨m - 1,by simp at hm; omega⟩
   rw [f76.l0,lt_end]
   simp [br,marksE,nmE]
 | cons z zs ih =>
   intro p s m hx h0 h1 hp hm
   obtain ⟨m,rfl⟩ : ∃ k,m = k + 1:=⟨m - 1,by simp at hm; omega⟩
   simp only [nmE,List.length_cons] at h1
   have hz:=hx z (by simp)
   have h : p.length < (p ++ z :: zs).length:=by simp
   have hat : eAt (p ++ z :: zs) p.length = z:=by simp [eAt,List.getD]
   have hlen : ∀ y,(p ++ y :: zs).length = (p ++ z :: zs).length:=fun y => by simp
   have hb : ∀ (y : Eff) (c : Nat),c < 3 → Nat.ble (p.length * 3 + c + 1) (effs (p ++ y :: zs)).length = true:=fun y c hc => by
    rw [effs_length]; apply le_ble; simp; omega
   have st : ∀ (y z' : Eff) (c : Nat) (v : T),c < 3 → effC z' = (effC y).set c v → setN (effs (p ++ y :: zs)) (p.length * 3 + c) [v] = effs (p ++ z' :: zs):=fun y z' c v hc hy => by
    rw [setN_one]
    have:=rows_set effC_length ⟨5,0,[]⟩ (p ++ y :: zs) p.length c v z' (by simp) hc (by simpa [List.getD] using hy)
    unfold effs
    rw [this]; simp
   have w1 : IntKind.i64.wrap (s + 1) = s + 1:=by rw [wrap64] <;> omega
   have w2 : IntKind.i64.wrap (s + 1 + 1) = s + 2:=by rw [wrap64] <;> omega
   have e0:=st z ⟨s,z.len,z.nums⟩ 0 (.int .i64 s) (by decide) rfl
   have e1:=st ⟨s,z.len,z.nums⟩ ⟨s,s + 1,z.nums⟩ 1 (.int .i64 (s + 1)) (by decide) rfl
   have e2:=st ⟨s,s + 1,z.nums⟩ ⟨s,s + 1,marksF .f32 (s + 2) z.nums.length⟩ 2 (.lst z.nums.length (fls .f32 (marksF .f32 (s + 2) z.nums.length))) (by decide) (by simp [effC,marksF_length])
   have h2 : p.length < (p ++ (⟨s,s + 1,z.nums⟩ : Eff) :: zs).length:=by simp
   have hat2 : eAt (p ++ (⟨s,s + 1,z.nums⟩ : Eff) :: zs) p.length = ⟨s,s + 1,z.nums⟩:=by simp [eAt,List.getD]
   have g3 : (effs (p ++ (⟨s,s + 1,z.nums⟩ : Eff) :: zs))[p.length * 3 + 2]? = some (.lst z.nums.length (fls .f32 z.nums)):=by
    rw [eff_get (c:=2) (by decide) _ _ h2,hat2]; rfl
   have g4 : okAt [.lst] (effs (p ++ (⟨s,s + 1,z.nums⟩ : Eff) :: zs)) (p.length * 3 + 2) = true:=by simp [okAt,g3,isCK]
   have g5 : nAt (effs (p ++ (⟨s,s + 1,z.nums⟩ : Eff) :: zs)) (p.length * 3 + 2) = z.nums.length:=by unfold nAt; rw [g3]
   have g6 : lAt (effs (p ++ (⟨s,s + 1,z.nums⟩ : Eff) :: zs)) (p.length * 3 + 2) = fls .f32 z.nums:=by unfold lAt; rw [g3]
   have e3:=mark32 n z.nums (by omega) (s + 2) (by omega) (by omega) (by omega)
   have step:=ih (p ++ [⟨s,s + 1,marksF .f32 (s + 2) z.nums.length⟩]) (s + 2 + (z.nums.length : Int)) m (fun e he => hx e (by simp [he])) (by omega) (by omega) (by simp at hp ⊢; omega) (by simp at hm; omega)
   rw [f76.l0,lt_mid,in_mid,toNat_len,wrap_len (z:=z) (show p.length < 4611686018427387904 by simp at hp; omega)]
   simp only [br_t,gd_t,hb z 0 (by decide),e0,w1,hb _ 1 (by decide),e1,w2,g4,Bool.and_self,g5,g6,e3,bd_s,e2]
   have q1 : (p ++ [(⟨s,s + 1,marksF .f32 (s + 2) z.nums.length⟩ : Eff)]) ++ zs = p ++ ⟨s,s + 1,marksF .f32 (s + 2) z.nums.length⟩ :: zs:=by simp
   have q2 : (p ++ [(⟨s,s + 1,marksF .f32 (s + 2) z.nums.length⟩ : Eff)]) ++ marksE (s + 2 + (z.nums.length : Int)) zs = p ++ marksE s (z :: zs):=by simp [marksE]
   rw [q1,q2,hlen] at step
   have q3 : (p ++ [(⟨s,s + 1,marksF .f32 (s + 2) z.nums.length⟩ : Eff)]).length = (p ++ [z]).length:=by simp
   rw [q3] at step
   rw [step]
   congr 3
   simp only [nmE,List.length_cons]; omega
theorem mks_e (n : Nat) (es : List Eff) (hx : ∀ e ∈ es,e.nums.length ≤ 1048576) (hl : es.length ≤ 1048576) (s : Int) (h0 : 0 ≤ s) (h1 : s + 2 * (es.length : Int) + (nmE es : Int) ≤ 1099511627776) (hn : 1048576 < n) :
  f76 (n + 2) es.length (effs es) s = some (s + 2 * (es.length : Int) + (nmE es : Int),es.length,effs (marksE s es)):=by
 have e:=mkl_e n hn es [] s (n + 1) hx h0 h1 (by simpa using hl) (by omega)
 have e : f76.l0 (n + 1) (n + 1) es.length (effs es) s 0 = some (es.length,effs (marksE s es),s + 2 * (es.length : Int) + (nmE es : Int)):=e
 rw [f76,e]; rfl
theorem sz1_c (n : Nat) (e : Eff) (hx : e.nums.length ≤ 9223372036854775807) (left : Int) (h0 : 0 ≤ left) (h1 : left ≤ 1048576) : f60 (n + 2) e.kind e.len e.nums.length (fls .f32 e.nums) left = some (leftM left e.nums.length):=by
 rw [f60,sz32 n e.nums hx left h0 h1]
 simp only [bd_s,leftM_neg h0]
 by_cases h : (e.nums.length : Int) ≤ left
 ·rw [decide_eq_true h]; rfl
 ·rw [decide_eq_false h]; unfold leftM; rw [if_neg h]; rfl
theorem szl_c (n : Nat) (es : List Eff) (hx : ∀ e ∈ es,e.nums.length ≤ 9223372036854775807) (hl : es.length ≤ 1048576) : ∀ (j i m : Nat) (left : Int),0 ≤ left → left ≤ 1048576 → i + j = es.length → j < m →
  f25.l0 (n + 2) m es.length (effs es) left (i : Int) = some (if (nmE (es.drop i) : Int) ≤ left then Sum.inr (left - (nmE (es.drop i) : Int)) else Sum.inl (-1)):=by
 intro j
 induction j with
 | zero =>
   intro i m left h0 h1 hi hm
   obtain ⟨m,rfl⟩ : ∃ k,m = k + 1:=⟨m - 1,by omega⟩
   rw [f25.l0,nlt_dec (by omega),List.drop_eq_nil_of_le (by omega)]
   simp [br,nmE,h0]
 | succ j ih =>
   intro i m left h0 h1 hi hm
   obtain ⟨m,rfl⟩ : ∃ k,m = k + 1:=⟨m - 1,by omega⟩
   have h : i < es.length:=by omega
   have e1:=sz1_c n (eAt es i) (hx _ (eAt_mem h)) left h0 h1
   rw [f25.l0,lt_dec h,in_dec h,Int.toNat_natCast,okE h,eff_drop h,nmE]
   simp only [br_t,Bool.and_self,gd_t,kE h,gE h,nE h,lE h,e1,bd_s,leftM_neg h0,wrap_succ (show i < 9223372036854775807 by omega)]
   by_cases hc : ((eAt es i).nums.length : Int) ≤ left
   ·rw [decide_eq_true hc]
    simp only [Bool.not_true,br_f]
    have hL : leftM left (eAt es i).nums.length = left - ((eAt es i).nums.length : Int):=by unfold leftM; rw [if_pos hc]
    rw [hL,ih (i + 1) m _ (by omega) (by omega) (by omega) (by omega)]
    congr 1
    by_cases h2 : (nmE (es.drop (i + 1)) : Int) ≤ left - ((eAt es i).nums.length : Int)
    ·rw [if_pos h2,if_pos (by omega)]; congr 1; omega
    ·rw [if_neg h2,if_neg (by omega)]
   ·rw [decide_eq_false hc,if_neg (by omega)]; rfl
theorem szs_c (n : Nat) (es : List Eff) (hx : ∀ e ∈ es,e.nums.length ≤ 9223372036854775807) (hx2 : es.length ≤ 9223372036854775807) (left : Int) (h0 : 0 ≤ left) (h1 : left ≤ 1048576) (hn : 1048577 < n) :
  f25 (n + 3) es.length (effs es) left = some (leftM left (szE es)):=by
 rw [f25,show IntKind.i64.wrap (left - (es.length : Int)) = left - (es.length : Int) by rw [wrap64] <;> omega,szE_nm]
 unfold leftM
 by_cases h : (es.length : Int) ≤ left
 ·have e:=szl_c n es hx (by omega) es.length 0 (n + 2) (left - (es.length : Int)) (by omega) (by omega) (by omega) (by omega)
  have e : f25.l0 (n + 2) (n + 2) es.length (effs es) (left - (es.length : Int)) 0 = _:=e
  rw [decide_eq_false (by omega),e,List.drop_zero]
  by_cases h2 : (nmE es : Int) ≤ left - (es.length : Int)
  ·rw [if_pos h2,if_pos (by omega)]
   simp only [br_f,bd_s,sm_r]
   congr 1; omega
  ·rw [if_neg h2,if_neg (by omega)]; rfl
 ·rw [decide_eq_true (by omega),if_neg (by omega)]; rfl
theorem to1_c (n : Nat) (e : Eff) (hx : e.nums.length ≤ 1048576) (hn : 1048576 < n) : f69 (n + 2) e.kind e.len e.nums.length (fls .f32 e.nums) = some (e.kind,e.len,e.nums.length,fls .f32 e.nums):=by
 rw [f69,copied n e.nums hx (by omega)]; rfl
theorem tol_c (n : Nat) (es : List Eff) (hx : ∀ e ∈ es,e.nums.length ≤ 1048576) (hl : es.length ≤ 1048576) (hn : 1048576 < n) : ∀ (j i m : Nat) (ys : List Eff),ys.length = es.length → i + j = es.length → j < m →
  f31.l0 (n + 2) m es.length (effs es) es.length (effs (es.take i ++ ys.drop i)) (i : Int) = some (es.length,effs es):=by
 intro j
 induction j with
 | zero =>
   intro i m ys hy hi hm
   obtain ⟨m,rfl⟩ : ∃ k,m = k + 1:=⟨m - 1,by omega⟩
   rw [f31.l0,nlt_dec (by omega),List.take_of_length_le (by omega),List.drop_eq_nil_of_le (by omega),List.append_nil]; rfl
 | succ j ih =>
   intro i m ys hy hi hm
   obtain ⟨m,rfl⟩ : ∃ k,m = k + 1:=⟨m - 1,by omega⟩
   have h : i < es.length:=by omega
   have hlen : (es.take i ++ ys.drop i).length = es.length:=by rw [List.length_append,List.length_take,List.length_drop]; omega
   have h' : i < (es.take i ++ ys.drop i).length:=by omega
   have hb : Nat.ble (i * 3 + 0 + 3) (effs (es.take i ++ ys.drop i)).length = true:=by rw [effs_length,hlen]; exact le_ble (by omega)
   have hset : (es.take i ++ ys.drop i).set i (eAt es i) = es.take (i + 1) ++ ys.drop (i + 1):=by
    have : eAt es i = es[i]:=by simp [eAt,List.getD,h]
    rw [this]; exact take_set_drop h hy
   rw [f31.l0,lt_dec h,in_dec h,Int.toNat_natCast,okE h]
   simp only [br_t,Bool.and_self,gd_t,kE h,gE h,nE h,lE h,to1_c n (eAt es i) (hx _ (eAt_mem h)) hn,bd_s,hb,eff_row h' (eAt es i),hset,wrap_succ (show i < 9223372036854775807 by omega)]
   exact ih (i + 1) m ys hy (by omega) (by omega)
theorem tos_c (n : Nat) (es : List Eff) (hx : ∀ e ∈ es,e.nums.length ≤ 1048576) (hl : es.length ≤ 1048576) (hn : 1048576 < n) : f31 (n + 3) es.length (effs es) = some (es.length,effs es):=by
 have e:=tol_c n es hx hl hn es.length 0 (n + 2) (List.replicate es.length ⟨0,0,[]⟩) (by simp) (by omega) (by omega)
 rw [List.take_zero,List.drop_zero,List.nil_append] at e
 have e : f31.l0 (n + 2) (n + 2) es.length (effs es) es.length (effs (List.replicate es.length ⟨0,0,[]⟩)) 0 = _:=e
 rw [f31,decide_eq_true (show (0 : Int) ≤ (es.length : Int) ∧ (es.length : Int) ≤ 2147483648 by omega),reps_effs]
 simp only [gd_t,e,bd_s]
theorem eq1_c (n : Nat) (e : Eff) (hx : e.nums.length ≤ 1048576) (hn : 1048576 < n) : f74 (n + 3) e.kind e.len e.nums.length (fls .f32 e.nums) e.kind e.len e.nums.length (fls .f32 e.nums) = some true:=by
 rw [f74,eq_self n e.nums (by omega) (by omega)]
 simp only [bne_self_eq_false,br_f,bd_s,Bool.not_true]
theorem eql_c (n : Nat) (es : List Eff) (hx : ∀ e ∈ es,e.nums.length ≤ 1048576) (hl : es.length ≤ 1048576) (hn : 1048576 < n) : ∀ (j i m : Nat),i + j = es.length → j < m →
  f36.l0 (n + 3) m es.length (effs es) es.length (effs es) (i : Int) = some (Sum.inr ()):=by
 intro j
 induction j with
 | zero =>
   intro i m hi hm
   obtain ⟨m,rfl⟩ : ∃ k,m = k + 1:=⟨m - 1,by omega⟩
   rw [f36.l0,nlt_dec (by omega)]; rfl
 | succ j ih =>
   intro i m hi hm
   obtain ⟨m,rfl⟩ : ∃ k,m = k + 1:=⟨m - 1,by omega⟩
   have h : i < es.length:=by omega
   rw [f36.l0,lt_dec h,in_dec h,Int.toNat_natCast,okE h]
   simp only [br_t,Bool.and_self,gd_t,kE h,gE h,nE h,lE h,eq1_c n (eAt es i) (hx _ (eAt_mem h)) hn,bd_s,Bool.not_true,br_f,wrap_succ (show i < 9223372036854775807 by omega)]
   exact ih (i + 1) m (by omega) (by omega)
theorem eqs_c (n : Nat) (es : List Eff) (hx : ∀ e ∈ es,e.nums.length ≤ 1048576) (hl : es.length ≤ 1048576) (hn : 1048576 < n) : f36 (n + 4) es.length (effs es) es.length (effs es) = some true:=by
 have e:=eql_c n es hx hl hn es.length 0 (n + 3) (by omega) (by omega)
 have e : f36.l0 (n + 3) (n + 3) es.length (effs es) es.length (effs es) 0 = _:=e
 rw [f36]
 simp only [bne_self_eq_false,br_f,e,bd_s,sm_r]
theorem mkl_c (n : Nat) (hn : 1048576 < n) : ∀ (zs p : List Eff) (s : Int) (m : Nat),(∀ e ∈ zs,e.nums.length ≤ 1048576) → 0 ≤ s → s + 2 * (zs.length : Int) + (nmE zs : Int) ≤ 1099511627776 → p.length + zs.length ≤ 1048576 → zs.length < m →
  f38.l0 (n + 1) m (p ++ zs).length (effs (p ++ zs)) s (p.length : Int) = some ((p ++ zs).length,effs (p ++ marksE s zs),s + 2 * (zs.length : Int) + (nmE zs : Int)):=by
 intro zs
 induction zs with
 | nil =>
   intro p s m _ _ _ _ hm
   obtain ⟨m,rfl⟩ : ∃ k,m = k + 1:=⟨m - 1,by simp at hm; omega⟩
   rw [f38.l0,lt_end]
   simp [br,marksE,nmE]
 | cons z zs ih =>
   intro p s m hx h0 h1 hp hm
   obtain ⟨m,rfl⟩ : ∃ k,m = k + 1:=⟨m - 1,by simp at hm; omega⟩
   simp only [nmE,List.length_cons] at h1
   have hz:=hx z (by simp)
   have h : p.length < (p ++ z :: zs).length:=by simp
   have hat : eAt (p ++ z :: zs) p.length = z:=by simp [eAt,List.getD]
   have hlen : ∀ y,(p ++ y :: zs).length = (p ++ z :: zs).length:=fun y => by simp
   have hb : ∀ (y : Eff) (c : Nat),c < 3 → Nat.ble (p.length * 3 + c + 1) (effs (p ++ y :: zs)).length = true:=fun y c hc => by
    rw [effs_length]; apply le_ble; simp; omega
   have st : ∀ (y z' : Eff) (c : Nat) (v : T),c < 3 → effC z' = (effC y).set c v → setN (effs (p ++ y :: zs)) (p.length * 3 + c) [v] = effs (p ++ z' :: zs):=fun y z' c v hc hy => by
    rw [setN_one]
    have:=rows_set effC_length ⟨5,0,[]⟩ (p ++ y :: zs) p.length c v z' (by simp) hc (by simpa [List.getD] using hy)
    unfold effs
    rw [this]; simp
   have w1 : IntKind.i64.wrap (s + 1) = s + 1:=by rw [wrap64] <;> omega
   have w2 : IntKind.i64.wrap (s + 1 + 1) = s + 2:=by rw [wrap64] <;> omega
   have e0:=st z ⟨s,z.len,z.nums⟩ 0 (.int .i64 s) (by decide) rfl
   have e1:=st ⟨s,z.len,z.nums⟩ ⟨s,s + 1,z.nums⟩ 1 (.int .i64 (s + 1)) (by decide) rfl
   have e2:=st ⟨s,s + 1,z.nums⟩ ⟨s,s + 1,marksF .f32 (s + 2) z.nums.length⟩ 2 (.lst z.nums.length (fls .f32 (marksF .f32 (s + 2) z.nums.length))) (by decide) (by simp [effC,marksF_length])
   have h2 : p.length < (p ++ (⟨s,s + 1,z.nums⟩ : Eff) :: zs).length:=by simp
   have hat2 : eAt (p ++ (⟨s,s + 1,z.nums⟩ : Eff) :: zs) p.length = ⟨s,s + 1,z.nums⟩:=by simp [eAt,List.getD]
   have g3 : (effs (p ++ (⟨s,s + 1,z.nums⟩ : Eff) :: zs))[p.length * 3 + 2]? = some (.lst z.nums.length (fls .f32 z.nums)):=by
    rw [eff_get (c:=2) (by decide) _ _ h2,hat2]; rfl
   have g4 : okAt [.lst] (effs (p ++ (⟨s,s + 1,z.nums⟩ : Eff) :: zs)) (p.length * 3 + 2) = true:=by simp [okAt,g3,isCK]
   have g5 : nAt (effs (p ++ (⟨s,s + 1,z.nums⟩ : Eff) :: zs)) (p.length * 3 + 2) = z.nums.length:=by unfold nAt; rw [g3]
   have g6 : lAt (effs (p ++ (⟨s,s + 1,z.nums⟩ : Eff) :: zs)) (p.length * 3 + 2) = fls .f32 z.nums:=by unfold lAt; rw [g3]
   have e3:=mark32 n z.nums (by omega) (s + 2) (by omega) (by omega) (by omega)
   have step:=ih (p ++ [⟨s,s + 1,marksF .f32 (s + 2) z.nums.length⟩]) (s + 2 + (z.nums.length : Int)) m (fun e he => hx e (by simp [he])) (by omega) (by omega) (by simp at hp ⊢; omega) (by simp at hm; omega)
   rw [f38.l0,lt_mid,in_mid,toNat_len,wrap_len (z:=z) (show p.length < 4611686018427387904 by simp at hp; omega)]
   simp only [br_t,gd_t,hb z 0 (by decide),e0,w1,hb _ 1 (by decide),e1,w2,g4,Bool.and_self,g5,g6,e3,bd_s,e2]
   have q1 : (p ++ [(⟨s,s + 1,marksF .f32 (s + 2) z.nums.length⟩ : Eff)]) ++ zs = p ++ ⟨s,s + 1,marksF .f32 (s + 2) z.nums.length⟩ :: zs:=by simp
   have q2 : (p ++ [(⟨s,s + 1,marksF .f32 (s + 2) z.nums.length⟩ : Eff)]) ++ marksE (s + 2 + (z.nums.length : Int)) zs = p ++ marksE s (z :: zs):=by simp [marksE]
   rw [q1,q2,hlen] at step
   have q3 : (p ++ [(⟨s,s + 1,marksF .f32 (s + 2) z.nums.length⟩ : Eff)]).length = (p ++ [z]).length:=by simp
   rw [q3] at step
   rw [step]
   congr 3
   simp only [nmE,List.length_cons]; omega
theorem mks_c (n : Nat) (es : List Eff) (hx : ∀ e ∈ es,e.nums.length ≤ 1048576) (hl : es.length ≤ 1048576) (s : Int) (h0 : 0 ≤ s) (h1 : s + 2 * (es.length : Int) + (nmE es : Int) ≤ 1099511627776) (hn : 1048576 < n) :
  f38 (n + 2) es.length (effs es) s = some (s + 2 * (es.length : Int) + (nmE es : Int),es.length,effs (marksE s es)):=by
 have e:=mkl_c n hn es [] s (n + 1) hx h0 h1 (by simpa using hl) (by omega)
 have e : f38.l0 (n + 1) (n + 1) es.length (effs es) s 0 = some (es.length,effs (marksE s es),s + 2 * (es.length : Int) + (nmE es : Int)):=e
 rw [f38,e]; rfl
structure Fin (cl : List Eff) (ss : List Strp) : Prop where
 c : szE cl ≤ 1048576
 s : szSt ss ≤ 1048576
structure Huge (cl : List Eff) (ss : List Strp) : Prop where
 c : cl.length ≤ 9223372036854775807
 cn : ∀ e ∈ cl,e.nums.length ≤ 9223372036854775807
 s : ss.length ≤ 9223372036854775807
 se : ∀ s ∈ ss,s.es.length ≤ 9223372036854775807 ∧ ∀ e ∈ s.es,e.nums.length ≤ 9223372036854775807
theorem sz1_st (n : Nat) (s : Strp) (hx : s.es.length ≤ 9223372036854775807 ∧ ∀ e ∈ s.es,e.nums.length ≤ 9223372036854775807) (left : Int) (h0 : 0 ≤ left) (h1 : left ≤ 1048576) (hn : 1048577 < n) :
  f61 (n + 4) s.es.length (effs s.es) s.tn s.pan s.mute s.solo left = some (leftM left (szE s.es)):=by
 rw [f61,szs_e n s.es hx.2 hx.1 left h0 h1 hn]
 simp only [bd_s,leftM_neg h0]
 by_cases h : (szE s.es : Int) ≤ left
 ·rw [decide_eq_true h]; rfl
 ·rw [decide_eq_false h]; unfold leftM; rw [if_neg h]; rfl
theorem szl_st (n : Nat) (hn : 1048577 < n) (ss : List Strp) (hx : ∀ s ∈ ss,s.es.length ≤ 9223372036854775807 ∧ ∀ e ∈ s.es,e.nums.length ≤ 9223372036854775807) (hl : ss.length ≤ 1048576) : ∀ (j i m : Nat) (left : Int),0 ≤ left → left ≤ 1048576 → i + j = ss.length → j < m →
  f26.l0 (n + 4) m ss.length (strps ss) left (i : Int) = some (if (nmSt (ss.drop i) : Int) ≤ left then Sum.inr (left - (nmSt (ss.drop i) : Int)) else Sum.inl (-1)):=by
 intro j
 induction j with
 | zero =>
   intro i m left h0 h1 hi hm
   obtain ⟨m,rfl⟩ : ∃ k,m = k + 1:=⟨m - 1,by omega⟩
   rw [f26.l0,nlt_dec (by omega),List.drop_eq_nil_of_le (by omega)]
   simp [br,nmSt,h0]
 | succ j ih =>
   intro i m left h0 h1 hi hm
   obtain ⟨m,rfl⟩ : ∃ k,m = k + 1:=⟨m - 1,by omega⟩
   have h : i < ss.length:=by omega
   have e1:=sz1_st n (sAt5 ss i) (hx _ (sAt5_mem h)) left h0 h1 hn
   rw [f26.l0,lt_dec h,in_dec h,Int.toNat_natCast,okS5 h,st_drop h,nmSt]
   simp only [br_t,Bool.and_self,gd_t,nS5 h,lS5 h,tS5 h,pS5 h,mS5 h,oS5 h,e1,bd_s,leftM_neg h0,wrap_succ (show i < 9223372036854775807 by omega)]
   by_cases hc : (szE (sAt5 ss i).es : Int) ≤ left
   ·rw [decide_eq_true hc]
    simp only [Bool.not_true,br_f]
    have hL : leftM left (szE (sAt5 ss i).es) = left - (szE (sAt5 ss i).es : Int):=by unfold leftM; rw [if_pos hc]
    rw [hL,ih (i + 1) m _ (by omega) (by omega) (by omega) (by omega)]
    congr 1
    by_cases h2 : (nmSt (ss.drop (i + 1)) : Int) ≤ left - (szE (sAt5 ss i).es : Int)
    ·rw [if_pos h2,if_pos (by omega)]; congr 1; omega
    ·rw [if_neg h2,if_neg (by omega)]
   ·rw [decide_eq_false hc,if_neg (by omega)]; rfl
theorem szs_st (n : Nat) (ss : List Strp) (hx : ∀ s ∈ ss,s.es.length ≤ 9223372036854775807 ∧ ∀ e ∈ s.es,e.nums.length ≤ 9223372036854775807) (hx2 : ss.length ≤ 9223372036854775807) (left : Int) (h0 : 0 ≤ left) (h1 : left ≤ 1048576) (hn : 1048577 < n) :
  f26 (n + 5) ss.length (strps ss) left = some (leftM left (szSt ss)):=by
 rw [f26,show IntKind.i64.wrap (left - (ss.length : Int)) = left - (ss.length : Int) by rw [wrap64] <;> omega,szSt_nm]
 unfold leftM
 by_cases h : (ss.length : Int) ≤ left
 ·have e:=szl_st n hn ss hx (by omega) ss.length 0 (n + 4) (left - (ss.length : Int)) (by omega) (by omega) (by omega) (by omega)
  have e : f26.l0 (n + 4) (n + 4) ss.length (strps ss) (left - (ss.length : Int)) 0 = _:=e
  rw [decide_eq_false (by omega),e,List.drop_zero]
  by_cases h2 : (nmSt ss : Int) ≤ left - (ss.length : Int)
  ·rw [if_pos h2,if_pos (by omega)]
   simp only [br_f,bd_s,sm_r]
   congr 1; omega
  ·rw [if_neg h2,if_neg (by omega)]; rfl
 ·rw [decide_eq_true (by omega),if_neg (by omega)]; rfl
theorem sz_sess (n : Nat) (cl : List Eff) (ss : List Strp) (h : Huge cl ss) (hn : 1048577 < n) :
  (∃ r : Int,0 ≤ r ∧ f6 (n + 6) cl.length (effs cl) ss.length (strps ss) 1048576 = some r ∧ Fin cl ss) ∨ f6 (n + 6) cl.length (effs cl) ss.length (strps ss) 1048576 = some (-1):=by
 rw [f6,szs_c (n + 2) cl h.cn h.c 1048576 (by omega) (by omega) (by omega)]
 simp only [bd_s,leftM_neg (show (0 : Int) ≤ 1048576 by omega)]
 by_cases h1 : (szE cl : Int) ≤ 1048576
 ·rw [decide_eq_true h1]
  have hL : leftM 1048576 (szE cl) = 1048576 - (szE cl : Int):=by unfold leftM; rw [if_pos h1]
  simp only [Bool.not_true,br_f,hL,szs_st n ss h.se h.s (1048576 - (szE cl : Int)) (by omega) (by omega) hn,bd_s,leftM_neg (show (0 : Int) ≤ 1048576 - (szE cl : Int) by omega)]
  by_cases h2 : (szSt ss : Int) ≤ 1048576 - (szE cl : Int)
  ·rw [decide_eq_true h2]
   refine .inl ⟨1048576 - (szE cl : Int) - (szSt ss : Int),by omega,?_,⟨by omega,by omega⟩⟩
   unfold leftM; rw [if_pos h2]; rfl
  ·rw [decide_eq_false h2]; exact .inr rfl
 ·rw [decide_eq_false h1]; exact .inr rfl
theorem fin_c {cl : List Eff} {ss : List Strp} (h : Fin cl ss) : cl.length ≤ 1048576 ∧ ∀ e ∈ cl,e.nums.length ≤ 1048576 :=
 ⟨Nat.le_trans (szE_len cl) h.c,fun e he => Nat.le_trans (szE_num cl e he) h.c⟩
theorem fin_s {cl : List Eff} {ss : List Strp} (h : Fin cl ss) : ss.length ≤ 1048576 ∧ ∀ s ∈ ss,s.es.length ≤ 1048576 ∧ ∀ e ∈ s.es,e.nums.length ≤ 1048576 :=
 ⟨Nat.le_trans (szSt_len ss) h.s,fun s hs => by
   have h1:=Nat.le_trans (szSt_es ss s hs) h.s
   exact ⟨Nat.le_trans (szE_len _) h1,fun e he => Nat.le_trans (szE_num _ e he) h1⟩⟩
theorem to1_st (n : Nat) (s : Strp) (hx : s.es.length ≤ 1048576 ∧ ∀ e ∈ s.es,e.nums.length ≤ 1048576) (hn : 1048576 < n) : f70 (n + 4) s.es.length (effs s.es) s.tn s.pan s.mute s.solo = some (s.es.length,effs s.es,s.tn,s.pan,s.mute,s.solo):=by
 rw [f70,tos_e n s.es hx.2 hx.1 hn]; rfl
theorem tol_st (n : Nat) (ss : List Strp) (hx : ∀ s ∈ ss,s.es.length ≤ 1048576 ∧ ∀ e ∈ s.es,e.nums.length ≤ 1048576) (hl : ss.length ≤ 1048576) (hn : 1048576 < n) : ∀ (j i m : Nat) (ys : List Strp),ys.length = ss.length → i + j = ss.length → j < m →
  f32.l0 (n + 4) m ss.length (strps ss) ss.length (strps (ss.take i ++ ys.drop i)) (i : Int) = some (ss.length,strps ss):=by
 intro j
 induction j with
 | zero =>
   intro i m ys hy hi hm
   obtain ⟨m,rfl⟩ : ∃ k,m = k + 1:=⟨m - 1,by omega⟩
   rw [f32.l0,nlt_dec (by omega),List.take_of_length_le (by omega),List.drop_eq_nil_of_le (by omega),List.append_nil]; rfl
 | succ j ih =>
   intro i m ys hy hi hm
   obtain ⟨m,rfl⟩ : ∃ k,m = k + 1:=⟨m - 1,by omega⟩
   have h : i < ss.length:=by omega
   have hlen : (ss.take i ++ ys.drop i).length = ss.length:=by rw [List.length_append,List.length_take,List.length_drop]; omega
   have h' : i < (ss.take i ++ ys.drop i).length:=by omega
   have hb : Nat.ble (i * 5 + 0 + 5) (strps (ss.take i ++ ys.drop i)).length = true:=by rw [strps_length,hlen]; exact le_ble (by omega)
   have hset : (ss.take i ++ ys.drop i).set i (sAt5 ss i) = ss.take (i + 1) ++ ys.drop (i + 1):=by
    have : sAt5 ss i = ss[i]:=by simp [sAt5,List.getD,h]
    rw [this]; exact take_set_drop h hy
   rw [f32.l0,lt_dec h,in_dec h,Int.toNat_natCast,okS5 h]
   simp only [br_t,Bool.and_self,gd_t,nS5 h,lS5 h,tS5 h,pS5 h,mS5 h,oS5 h,to1_st n (sAt5 ss i) (hx _ (sAt5_mem h)) hn,bd_s,hb,st_row h' (sAt5 ss i),hset,wrap_succ (show i < 9223372036854775807 by omega)]
   exact ih (i + 1) m ys hy (by omega) (by omega)
theorem tos_st (n : Nat) (ss : List Strp) (hx : ∀ s ∈ ss,s.es.length ≤ 1048576 ∧ ∀ e ∈ s.es,e.nums.length ≤ 1048576) (hl : ss.length ≤ 1048576) (hn : 1048576 < n) : f32 (n + 5) ss.length (strps ss) = some (ss.length,strps ss):=by
 have e:=tol_st n ss hx hl hn ss.length 0 (n + 4) (List.replicate ss.length ⟨[],0,0,false,false⟩) (by simp) (by omega) (by omega)
 rw [List.take_zero,List.drop_zero,List.nil_append] at e
 have e : f32.l0 (n + 4) (n + 4) ss.length (strps ss) ss.length (strps (List.replicate ss.length ⟨[],0,0,false,false⟩)) 0 = _:=e
 rw [f32,decide_eq_true (show (0 : Int) ≤ (ss.length : Int) ∧ (ss.length : Int) ≤ 2147483648 by omega),reps_strps]
 simp only [gd_t,e,bd_s]
theorem to_sess (n : Nat) (cl : List Eff) (ss : List Strp) (h : Fin cl ss) (hn : 1048576 < n) : f8 (n + 6) cl.length (effs cl) ss.length (strps ss) = some (cl.length,effs cl,ss.length,strps ss):=by
 rw [f8,tos_c (n + 2) cl (fin_c h).2 (fin_c h).1 (by omega)]
 simp only [bd_s,tos_st n ss (fin_s h).2 (fin_s h).1 hn]
theorem eq1_st (n : Nat) (s : Strp) (hx : s.es.length ≤ 1048576 ∧ ∀ e ∈ s.es,e.nums.length ≤ 1048576) (hn : 1048576 < n) :
  f75 (n + 5) s.es.length (effs s.es) s.tn s.pan s.mute s.solo s.es.length (effs s.es) s.tn s.pan s.mute s.solo = some true:=by
 rw [f75,eqs_e n s.es hx.2 hx.1 hn,fltToFlt_wide]
 simp only [bd_s,Bool.not_true,br_f,bne_self_eq_false,same_self,beq_self_eq_true]
theorem eql_st (n : Nat) (ss : List Strp) (hx : ∀ s ∈ ss,s.es.length ≤ 1048576 ∧ ∀ e ∈ s.es,e.nums.length ≤ 1048576) (hl : ss.length ≤ 1048576) (hn : 1048576 < n) : ∀ (j i m : Nat),i + j = ss.length → j < m →
  f37.l0 (n + 5) m ss.length (strps ss) ss.length (strps ss) (i : Int) = some (Sum.inr ()):=by
 intro j
 induction j with
 | zero =>
   intro i m hi hm
   obtain ⟨m,rfl⟩ : ∃ k,m = k + 1:=⟨m - 1,by omega⟩
   rw [f37.l0,nlt_dec (by omega)]; rfl
 | succ j ih =>
   intro i m hi hm
   obtain ⟨m,rfl⟩ : ∃ k,m = k + 1:=⟨m - 1,by omega⟩
   have h : i < ss.length:=by omega
   rw [f37.l0,lt_dec h,in_dec h,Int.toNat_natCast,okS5 h]
   simp only [br_t,Bool.and_self,gd_t,nS5 h,lS5 h,tS5 h,pS5 h,mS5 h,oS5 h,eq1_st n (sAt5 ss i) (hx _ (sAt5_mem h)) hn,bd_s,Bool.not_true,br_f,wrap_succ (show i < 9223372036854775807 by omega)]
   exact ih (i + 1) m (by omega) (by omega)
theorem eqs_st (n : Nat) (ss : List Strp) (hx : ∀ s ∈ ss,s.es.length ≤ 1048576 ∧ ∀ e ∈ s.es,e.nums.length ≤ 1048576) (hl : ss.length ≤ 1048576) (hn : 1048576 < n) : f37 (n + 6) ss.length (strps ss) ss.length (strps ss) = some true:=by
 have e:=eql_st n ss hx hl hn ss.length 0 (n + 5) (by omega) (by omega)
 have e : f37.l0 (n + 5) (n + 5) ss.length (strps ss) ss.length (strps ss) 0 = _:=e
 rw [f37]
 simp only [bne_self_eq_false,br_f,e,bd_s,sm_r]
theorem eq_sess (n : Nat) (cl : List Eff) (ss : List Strp) (h : Fin cl ss) (hn : 1048576 < n) : f11 (n + 7) cl.length (effs cl) ss.length (strps ss) cl.length (effs cl) ss.length (strps ss) = some true:=by
 rw [f11,eqs_c (n + 2) cl (fin_c h).2 (fin_c h).1 (by omega)]
 simp only [bd_s,Bool.not_true,br_f,eqs_st n ss (fin_s h).2 (fin_s h).1 hn]
def mkE (es : List Eff) : Int:=2 * (es.length : Int) + (nmE es : Int)
def marksSt : Int → List Strp → List Strp
 | _,[] => []
 | s,t :: ts => ⟨marksE s t.es,s + mkE t.es,FloatKind.f32.nearest (s + mkE t.es + 1),Int.tmod (s + mkE t.es + 2) 3 == 0,Int.tmod (s + mkE t.es + 3) 3 == 0⟩ :: marksSt (s + mkE t.es + 4) ts
def mkSt : List Strp → Int
 | [] => 0
 | t :: ts => mkE t.es + 4 + mkSt ts
theorem mkE_nonneg (es : List Eff) : 0 ≤ mkE es:=by unfold mkE; omega
theorem mkSt_nonneg : ∀ (ss : List Strp),0 ≤ mkSt ss
 | [] => Int.le_refl _
 | t :: ts => by have:=mkSt_nonneg ts; have:=mkE_nonneg t.es; simp only [mkSt]; omega
theorem mkE_le (es : List Eff) : mkE es ≤ 2 * (szE es : Int):=by unfold mkE; rw [szE_nm]; omega
theorem mkSt_le : ∀ (ss : List Strp),mkSt ss ≤ 4 * (szSt ss : Int)
 | [] => by simp [mkSt,szSt]
 | t :: ts => by have:=mkSt_le ts; have:=mkE_le t.es; simp only [mkSt,szSt]; omega
theorem mkl_st (n : Nat) (hn : 1048576 < n) : ∀ (zs p : List Strp) (s : Int) (m : Nat),(∀ t ∈ zs,t.es.length ≤ 1048576 ∧ ∀ e ∈ t.es,e.nums.length ≤ 1048576) → 0 ≤ s → s + mkSt zs ≤ 1099511627776 → p.length + zs.length ≤ 1048576 → zs.length < m →
  f39.l0 (n + 2) m (p ++ zs).length (strps (p ++ zs)) s (p.length : Int) = some ((p ++ zs).length,strps (p ++ marksSt s zs),s + mkSt zs):=by
 intro zs
 induction zs with
 | nil =>
   intro p s m _ _ _ _ hm
   obtain ⟨m,rfl⟩ : ∃ k,m = k + 1:=⟨m - 1,by simp at hm; omega⟩
   rw [f39.l0,lt_end]
   simp [br,marksSt,mkSt]
 | cons z zs ih =>
   intro p s m hx h0 h1 hp hm
   obtain ⟨m,rfl⟩ : ∃ k,m = k + 1:=⟨m - 1,by simp at hm; omega⟩
   have hz:=hx z (by simp)
   have hmk:=mkE_nonneg z.es
   have hmk2:=mkSt_nonneg zs
   simp only [mkSt] at h1
   have h : p.length < (p ++ z :: zs).length:=by simp
   have hlen : ∀ y,(p ++ y :: zs).length = (p ++ z :: zs).length:=fun y => by simp
   have hb : ∀ (y : Strp) (c : Nat),c < 5 → Nat.ble (p.length * 5 + c + 1) (strps (p ++ y :: zs)).length = true:=fun y c hc => by
    rw [strps_length]; apply le_ble; simp; omega
   have st : ∀ (y z' : Strp) (c : Nat) (v : T),c < 5 → stC z' = (stC y).set c v → setN (strps (p ++ y :: zs)) (p.length * 5 + c) [v] = strps (p ++ z' :: zs):=fun y z' c v hc hy => by
    rw [setN_one]
    have:=rows_set stC_length ⟨[],0,0,false,false⟩ (p ++ y :: zs) p.length c v z' (by simp) hc (by simpa [List.getD] using hy)
    unfold strps
    rw [this]; simp
   generalize hK : mkE z.es = K at *
   have w1 : IntKind.i64.wrap (s + K + 1) = s + K + 1:=by rw [wrap64] <;> omega
   have w2 : IntKind.i64.wrap (s + K + 1 + 1) = s + K + 2:=by rw [wrap64] <;> omega
   have w3 : IntKind.i64.wrap (s + K + 2 + 1) = s + K + 3:=by rw [wrap64] <;> omega
   have w4 : IntKind.i64.wrap (s + K + 3 + 1) = s + K + 4:=by rw [wrap64] <;> omega
   have em:=mks_e n z.es hz.2 hz.1 s h0 (by unfold mkE at hK; omega) hn
   have hK' : s + 2 * (z.es.length : Int) + (nmE z.es : Int) = s + K:=by rw [← hK]; unfold mkE; omega
   rw [hK'] at em
   have e0:=st z ⟨marksE s z.es,z.tn,z.pan,z.mute,z.solo⟩ 0 (.lst z.es.length (effs (marksE s z.es))) (by decide) (by simp [stC,marksE_length])
   have e1:=st ⟨marksE s z.es,z.tn,z.pan,z.mute,z.solo⟩ ⟨marksE s z.es,s + K,z.pan,z.mute,z.solo⟩ 1 (.int .i64 (s + K)) (by decide) rfl
   have e2:=st ⟨marksE s z.es,s + K,z.pan,z.mute,z.solo⟩ ⟨marksE s z.es,s + K,FloatKind.f32.nearest (s + K + 1),z.mute,z.solo⟩ 2 (.flt .f32 (FloatKind.f32.nearest (s + K + 1))) (by decide) rfl
   have e3:=st ⟨marksE s z.es,s + K,FloatKind.f32.nearest (s + K + 1),z.mute,z.solo⟩ ⟨marksE s z.es,s + K,FloatKind.f32.nearest (s + K + 1),Int.tmod (s + K + 2) 3 == 0,z.solo⟩ 3 (.bool (Int.tmod (s + K + 2) 3 == 0)) (by decide) rfl
   have e4:=st ⟨marksE s z.es,s + K,FloatKind.f32.nearest (s + K + 1),Int.tmod (s + K + 2) 3 == 0,z.solo⟩ ⟨marksE s z.es,s + K,FloatKind.f32.nearest (s + K + 1),Int.tmod (s + K + 2) 3 == 0,Int.tmod (s + K + 3) 3 == 0⟩ 4 (.bool (Int.tmod (s + K + 3) 3 == 0)) (by decide) rfl
   have hat : sAt5 (p ++ z :: zs) p.length = z:=by simp [sAt5,List.getD]
   have g3 : (strps (p ++ z :: zs))[p.length * 5 + 0]? = some (.lst z.es.length (effs z.es)):=by
    rw [st_get (c:=0) (by decide) _ _ h,hat]; rfl
   have g4 : okAt [.lst] (strps (p ++ z :: zs)) (p.length * 5 + 0) = true:=by simp only [okAt,g3,isCK,Bool.and_self]
   have g5 : nAt (strps (p ++ z :: zs)) (p.length * 5 + 0) = z.es.length:=by unfold nAt; rw [g3]
   have g6 : lAt (strps (p ++ z :: zs)) (p.length * 5 + 0) = effs z.es:=by unfold lAt; rw [g3]
   have step:=ih (p ++ [⟨marksE s z.es,s + K,FloatKind.f32.nearest (s + K + 1),Int.tmod (s + K + 2) 3 == 0,Int.tmod (s + K + 3) 3 == 0⟩]) (s + K + 4) m (fun t ht => hx t (by simp [ht])) (by omega) (by omega) (by simp at hp ⊢; omega) (by simp at hm; omega)
   rw [f39.l0,lt_mid,in_mid,toNat_len,wrap_len (z:=z) (show p.length < 4611686018427387904 by simp at hp; omega)]
   simp only [br_t,gd_t,g4,Bool.and_self,g5,g6,em,bd_s,e0,hb _ 1 (by decide),e1,w1,hb _ 2 (by decide),e2,w2,hb _ 3 (by decide),e3,w3,hb _ 4 (by decide),e4,w4]
   have q1 : (p ++ [(⟨marksE s z.es,s + K,FloatKind.f32.nearest (s + K + 1),Int.tmod (s + K + 2) 3 == 0,Int.tmod (s + K + 3) 3 == 0⟩ : Strp)]) ++ zs = p ++ ⟨marksE s z.es,s + K,FloatKind.f32.nearest (s + K + 1),Int.tmod (s + K + 2) 3 == 0,Int.tmod (s + K + 3) 3 == 0⟩ :: zs:=by simp
   have q2 : (p ++ [(⟨marksE s z.es,s + K,FloatKind.f32.nearest (s + K + 1),Int.tmod (s + K + 2) 3 == 0,Int.tmod (s + K + 3) 3 == 0⟩ : Strp)]) ++ marksSt (s + K + 4) zs = p ++ marksSt s (z :: zs):=by simp [marksSt,hK]
   have q3 : (p ++ [(⟨marksE s z.es,s + K,FloatKind.f32.nearest (s + K + 1),Int.tmod (s + K + 2) 3 == 0,Int.tmod (s + K + 3) 3 == 0⟩ : Strp)]).length = (p ++ [z]).length:=by simp
   rw [q1,q2,q3,hlen] at step
   rw [step]
   congr 3
   simp only [mkSt,hK]; omega
theorem mks_st (n : Nat) (ss : List Strp) (hx : ∀ s ∈ ss,s.es.length ≤ 1048576 ∧ ∀ e ∈ s.es,e.nums.length ≤ 1048576) (hl : ss.length ≤ 1048576) (s : Int) (h0 : 0 ≤ s) (h1 : s + mkSt ss ≤ 1099511627776) (hn : 1048576 < n) :
  f39 (n + 3) ss.length (strps ss) s = some (s + mkSt ss,ss.length,strps (marksSt s ss)):=by
 have e:=mkl_st n hn ss [] s (n + 2) hx h0 h1 (by simpa using hl) (by omega)
 have e : f39.l0 (n + 2) (n + 2) ss.length (strps ss) s 0 = some (ss.length,strps (marksSt s ss),s + mkSt ss):=e
 rw [f39,e]; rfl
theorem mk_sess (n : Nat) (cl : List Eff) (ss : List Strp) (h : Fin cl ss) (hn : 1048576 < n) : f12 (n + 4) cl.length (effs cl) ss.length (strps ss) 1 = some (1 + mkE cl + mkSt ss,cl.length,effs (marksE 1 cl),ss.length,strps (marksSt (1 + mkE cl) ss)):=by
 have b1:=mkE_le cl
 have b2:=mkSt_le ss
 have b3:=mkE_nonneg cl
 have b4:=mkSt_nonneg ss
 have hc:=h.c
 have hs:=h.s
 have e1:=mks_c (n + 1) cl (fin_c h).2 (fin_c h).1 1 (by omega) (by unfold mkE at b1; omega) (by omega)
 have e2:=mks_st n ss (fin_s h).2 (fin_s h).1 (1 + mkE cl) (by omega) (by omega) hn
 have hq : (1 : Int) + 2 * (cl.length : Int) + (nmE cl : Int) = 1 + mkE cl:=by unfold mkE; omega
 rw [hq] at e1
 rw [f12,e1]
 simp only [bd_s,e2]
section
variable {E : Env} {tE tI tF tFs tEs tSt tCs tSs tS tC tB o1 o2 o3 o4 o5 : Nat} {dE dI dF dFs dEs dSt dCs dSs dS dC dB : TD}
theorem effs_inv (hE : E.ty tE = some dE) (kE : dE.kd = .st [(o1,tI),(o2,tI),(o3,tFs)]) (hI : E.ty tI = some dI) (kI : dI.kd = .int .i64) (hFs : E.ty tFs = some dFs) (kFs : dFs.kd = .slc tF) (hF : E.ty tF = some dF) (kF : dF.kd = .flt .f32) :
  ∀ (n : Nat) (cs : List T),WTs E tE n cs → ∃ es : List Eff,cs = effs es ∧ n = es.length ∧ ∀ e ∈ es,GoodE e ∧ e.nums.length ≤ maxLen:=by
 intro n
 induction n with
 | zero => intro cs h; cases h; exact ⟨[],rfl,rfl,by simp⟩
 | succ n ih =>
   intro cs h
   cases h with
   | snoc h hc =>
     obtain ⟨es,rfl,rfl,hx⟩:=ih _ h
     have hf:=hc.st_inv hE kE
     cases hf with
     | cons h1 r1 =>
       cases r1 with
       | cons h2 r2 =>
         cases r2 with
         | cons h3 r3 =>
           cases r3
           obtain ⟨a,rfl,ga⟩:=h1.int_inv hI kI
           obtain ⟨b,rfl,gb⟩:=h2.int_inv hI kI
           obtain ⟨k,us,rfl,gl,hu⟩:=h3.slc_inv hFs kFs
           obtain ⟨xs,rfl,rfl,gx⟩:=hu.flts hF kF
           refine ⟨es ++ [⟨a,b,xs⟩],?_,by simp,fun e he => ?_⟩
           ·unfold effs
            rw [List.flatMap_append]; rfl
           ·simp only [List.mem_append,List.mem_singleton] at he
            rcases he with he | rfl
            ·exact hx e he
            ·exact ⟨⟨ga,gb,fun x hx => (gx x hx).w32⟩,gl⟩
theorem strps_inv (hSt : E.ty tSt = some dSt) (kSt : dSt.kd = .st [(o1,tEs),(o2,tI),(o3,tF),(o4,tB),(o5,tB)]) (hB : E.ty tB = some dB) (kB : dB.kd = .bool) (hEs : E.ty tEs = some dEs) (kEs : dEs.kd = .slc tE) {p1 p2 p3 : Nat}
  (hE : E.ty tE = some dE) (kE : dE.kd = .st [(p1,tI),(p2,tI),(p3,tFs)]) (hI : E.ty tI = some dI) (kI : dI.kd = .int .i64) (hFs : E.ty tFs = some dFs) (kFs : dFs.kd = .slc tF) (hF : E.ty tF = some dF) (kF : dF.kd = .flt .f32) :
  ∀ (n : Nat) (cs : List T),WTs E tSt n cs → ∃ ss : List Strp,cs = strps ss ∧ n = ss.length ∧ ∀ s ∈ ss,((∀ e ∈ s.es,GoodE e) ∧ GoodI .i64 s.tn ∧ W32 s.pan) ∧ s.es.length ≤ maxLen ∧ ∀ e ∈ s.es,e.nums.length ≤ maxLen:=by
 intro n
 induction n with
 | zero => intro cs h; cases h; exact ⟨[],rfl,rfl,by simp⟩
 | succ n ih =>
   intro cs h
   cases h with
   | snoc h hc =>
     obtain ⟨ss,rfl,rfl,hx⟩:=ih _ h
     have hf:=hc.st_inv hSt kSt
     cases hf with
     | cons h1 r1 =>
       cases r1 with
       | cons h2 r2 =>
         cases r2 with
         | cons h3 r3 =>
           cases r3 with
           | cons h4 r4 =>
             cases r4 with
             | cons h5 r5 =>
               cases r5
               obtain ⟨k,us,rfl,gl,hu⟩:=h1.slc_inv hEs kEs
               obtain ⟨es,rfl,rfl,ge⟩:=effs_inv hE kE hI kI hFs kFs hF kF _ _ hu
               obtain ⟨a,rfl,ga⟩:=h2.int_inv hI kI
               obtain ⟨p,rfl,gp⟩:=h3.flt_inv hF kF
               obtain ⟨b,rfl⟩:=h4.bool_inv hB kB
               obtain ⟨c,rfl⟩:=h5.bool_inv hB kB
               refine ⟨ss ++ [⟨es,a,p,b,c⟩],?_,by simp,fun s hs => ?_⟩
               ·unfold strps
                rw [List.flatMap_append]; rfl
               ·simp only [List.mem_append,List.mem_singleton] at hs
                rcases hs with hs | rfl
                ·exact hx s hs
                ·exact ⟨⟨fun e he => (ge e he).1,ga,gp.w32⟩,gl,fun e he => (ge e he).2⟩
theorem session_inv (hS : E.ty tS = some dS) {q1 q2 : Nat} (kS : dS.kd = .st [(q1,tCs),(q2,tSs)]) (hCs : E.ty tCs = some dCs) (kCs : dCs.kd = .slc tC) (hC : E.ty tC = some dC) {r1 r2 r3 : Nat} (kC : dC.kd = .st [(r1,tI),(r2,tI),(r3,tFs)])
  (hSs : E.ty tSs = some dSs) (kSs : dSs.kd = .slc tSt)
  (hSt : E.ty tSt = some dSt) (kSt : dSt.kd = .st [(o1,tEs),(o2,tI),(o3,tF),(o4,tB),(o5,tB)]) (hB : E.ty tB = some dB) (kB : dB.kd = .bool) (hEs : E.ty tEs = some dEs) (kEs : dEs.kd = .slc tE) {p1 p2 p3 : Nat}
  (hE : E.ty tE = some dE) (kE : dE.kd = .st [(p1,tI),(p2,tI),(p3,tFs)]) (hI : E.ty tI = some dI) (kI : dI.kd = .int .i64) (hFs : E.ty tFs = some dFs) (kFs : dFs.kd = .slc tF) (hF : E.ty tF = some dF) (kF : dF.kd = .flt .f32) {ts : List T} (h : WT E tS ts) :
  ∃ (cl : List Eff) (ss : List Strp),ts = [.lst cl.length (effs cl),.lst ss.length (strps ss)] ∧ GoodS cl ss ∧ Huge cl ss:=by
 have hm : maxLen ≤ 9223372036854775807:=by decide
 have hf:=h.st_inv hS kS
 cases hf with
 | cons h1 r1 =>
   cases r1 with
   | cons h2 r2 =>
     cases r2
     obtain ⟨k,us,rfl,gl,hu⟩:=h1.slc_inv hCs kCs
     obtain ⟨cl,rfl,rfl,gc⟩:=effs_inv hC kC hI kI hFs kFs hF kF _ _ hu
     obtain ⟨k2,us2,rfl,gl2,hu2⟩:=h2.slc_inv hSs kSs
     obtain ⟨ss,rfl,rfl,gs⟩:=strps_inv hSt kSt hB kB hEs kEs hE kE hI kI hFs kFs hF kF _ _ hu2
     exact ⟨cl,ss,rfl,⟨fun c hc => (gc c hc).1,fun s hs => (gs s hs).1⟩,⟨by omega,fun e he => Nat.le_trans (gc e he).2 hm,by omega,fun s hs => ⟨Nat.le_trans (gs s hs).2.1 hm,fun e he => Nat.le_trans ((gs s hs).2.2 e he) hm⟩⟩⟩
end
theorem both (n : Nat) (hn : 1200 < n) (cl : List Eff) (ss : List Strp) (hg : GoodS cl ss) (hf : Fin cl ss) (t k : Int) :
  ∃ (xs : List Nat) (b : Bool),xs.length ≤ 256 ∧ f7 (n + 200) cl.length (effs cl) ss.length (strps ss) t k = some (xs.length,fls .f32 xs,b) ∧ f9 (n + 200) cl.length (effs cl) ss.length (strps ss) t k = some (xs.length,fls .f32 xs,b):=by
 have hl:=(fin_s hf).1
 have v1:=s_sessB (n + 193) cl ss (by omega)
 have v1 : f27 (n + 199) cl.length (effs cl) ss.length (strps ss) = _:=v1
 have v2:=i_sessB (n + 192) cl ss (by omega)
 have v2 : f50 (n + 198) cl.length (effs cl) ss.length (strps ss) = _:=v2
 have w : IntKind.i64.wrap ((ss.length : Int) - 1) = (ss.length : Int) - 1:=by rw [wrap64] <;> omega
 have c2 : f29 (n + 199) k = some (decide (0 ≤ k ∧ k ≤ 256)):=by rw [f29,s_in]; rfl
 rw [f7,f9,v1,f33,v2,w]
 simp only [bd_s,s_in,i_index (n + 196) t ss.length (by omega),i_count (n + 196),c2]
 by_cases h1 : sessB cl ss = true
 case neg =>
  have h1 : sessB cl ss = false:=by simpa using h1
  rw [h1]; exact ⟨[],false,by simp,rfl,rfl⟩
 rw [h1]
 by_cases h2 : 0 ≤ t ∧ t ≤ (ss.length : Int) - 1
 case neg => rw [decide_eq_false h2]; exact ⟨[],false,by simp,rfl,rfl⟩
 rw [decide_eq_true h2]
 by_cases h3 : 0 ≤ k ∧ k ≤ 256
 case neg => rw [decide_eq_false h3]; exact ⟨[],false,by simp,rfl,rfl⟩
 rw [decide_eq_true h3]
 have hok:=sess_ok h1
 obtain ⟨i,rfl⟩:=Int.eq_ofNat_of_zero_le h2.1
 obtain ⟨k,rfl⟩:=Int.eq_ofNat_of_zero_le h3.1
 have hi : i < ss.length:=by omega
 obtain ⟨es,e1,e2,e3⟩:=strip_efs hok hg (sAt5_mem hi)
 obtain ⟨f1,f2⟩:=chan_facts e2 (i : Int) cl k
 have g1:=s_channel (n + 95) (by omega) hok i k hi (by omega) es e1 e2 e3
 have g1 : f30 (n + 199) cl.length (effs cl) ss.length (strps ss) (i : Int) (k : Int) = _:=g1
 have g2:=i_channel (n + 95) (by omega) hok i k hi (by omega) es e1 e2 e3
 have g2 : f34 (n + 199) cl.length (effs cl) ss.length (strps ss) (i : Int) (k : Int) = _:=g2
 refine ⟨chanM es (i : Int) cl k,true,by omega,?_,?_⟩
 ·simp only [Bool.not_true,br_f,g1,bd_s,f1]
 ·simp only [Bool.not_true,br_t,br_f,g2,bd_s,f1]
theorem exact_ (cl : List Eff) (ss : List Strp) (hg : GoodS cl ss) (hh : Huge cl ss) (t : Int) (gt : GoodI .i64 t) (k : Int) (gk : GoodI .i64 k) : ∃ n,f3 n cl.length (effs cl) ss.length (strps ss) t k = some true:=by
 refine ⟨1048577 + 1 + 2001,?_⟩
 generalize hN : 1048577 + 1 = N
 rw [show N + 2001 = (N + 2000) + 1 from rfl,f3]
 rcases sz_sess (N + 1994) cl ss hh (by omega) with ⟨r,r0,e0,hf⟩ | e0
 case inr =>
  have e0 : f6 (N + 2000) cl.length (effs cl) ss.length (strps ss) 1048576 = some (-1):=e0
  rw [e0]; rfl
 have e0 : f6 (N + 2000) cl.length (effs cl) ss.length (strps ss) 1048576 = some r:=e0
 have e1:=to_sess (N + 1994) cl ss hf (by omega)
 have e1 : f8 (N + 2000) cl.length (effs cl) ss.length (strps ss) = _:=e1
 obtain ⟨xs,b,hx,e2,e3⟩:=both (N + 1800) (by omega) cl ss hg hf t k
 have e2 : f7 (N + 2000) cl.length (effs cl) ss.length (strps ss) t k = _:=e2
 have e3 : f9 (N + 2000) cl.length (effs cl) ss.length (strps ss) t k = _:=e3
 have e4:=eq_sess (N + 1993) cl ss hf (by omega)
 have e4 : f11 (N + 2000) cl.length (effs cl) ss.length (strps ss) cl.length (effs cl) ss.length (strps ss) = _:=e4
 have e5:=mk_sess (N + 1996) cl ss hf (by omega)
 have e5 : f12 (N + 2000) cl.length (effs cl) ss.length (strps ss) 1 = _:=e5
 have e6:=eq_self (N + 1998) xs (by omega) (by omega)
 have e6 : f10 (N + 2000) xs.length (fls .f32 xs) xs.length (fls .f32 xs) = _:=e6
 have e7:=mark32 (N + 1999) xs (by omega) 1 (by omega) (by omega) (by omega)
 have e7 : f13 (N + 2000) xs.length (fls .f32 xs) 1 = _:=e7
 have e8:=held32 (N + 1999) xs.length (by omega) 1 (by omega) (by omega) (by omega)
 have e8 : f14 (N + 2000) xs.length (fls .f32 (marksF .f32 1 xs.length)) 1 = _:=e8
 have b1:=mkE_nonneg cl
 have b2:=mkSt_nonneg ss
 simp only [e0,bd_s,decide_eq_false (show ¬ r < 0 by omega),br_f,e1,e2,e3,e4,e5,e6,e7,e8,Bool.not_true,beq_self_eq_true,decide_eq_false (show ¬ (1 + mkE cl + mkSt ss < 0) by omega),decide_eq_false (show ¬ ((1 : Int) + (xs.length : Int) < 0) by omega),bne_self_eq_false]
theorem law3 : ∀ args,LawArgs E Tryz.f3.params.toList args → ∃ N os,evalFn E N 3 args = some ⟨[⟨false,[.leaf],[.bool true]⟩],os⟩:=by
 intro args h0
 have hp : Tryz.f3.params.toList = [25,2,2]:=by kernel_rfl
 rw [hp] at h0
 obtain ⟨ts0,r0,rfl,hw0,h1⟩:=h0.cons_inv (d:=⟨true,2,48,[.sl .own [.leaf,.leaf,.sl .own [.leaf]],.sl .own [.sl .own [.leaf,.leaf,.sl .own [.leaf]],.leaf,.leaf,.leaf,.leaf]],[.lst 0 [],.lst 0 []],.st [(0,22),(1,23)]⟩) (by kernel_rfl)
 obtain ⟨cl0,ss0,rfl,gs0,gh0⟩:=session_inv (dS:=⟨true,2,48,[.sl .own [.leaf,.leaf,.sl .own [.leaf]],.sl .own [.sl .own [.leaf,.leaf,.sl .own [.leaf]],.leaf,.leaf,.leaf,.leaf]],[.lst 0 [],.lst 0 []],.st [(0,22),(1,23)]⟩) (by kernel_rfl) rfl (dCs:=⟨false,1,24,[.sl .own [.leaf,.leaf,.sl .own [.leaf]]],[.lst 0 []],.slc 101⟩) (by kernel_rfl) rfl (dC:=⟨true,3,40,[.leaf,.leaf,.sl .own [.leaf]],[.int .i64 0,.int .i64 0,.lst 0 []],.st [(0,2),(1,2),(2,27)]⟩) (by kernel_rfl) rfl (dSs:=⟨false,1,24,[.sl .own [.sl .own [.leaf,.leaf,.sl .own [.leaf]],.leaf,.leaf,.leaf,.leaf]],[.lst 0 []],.slc 105⟩) (by kernel_rfl) rfl (dSt:=⟨true,5,40,[.sl .own [.leaf,.leaf,.sl .own [.leaf]],.leaf,.leaf,.leaf,.leaf],[.lst 0 [],.int .i64 0,.flt .f32 0,.bool false,.bool false],.st [(0,103),(1,2),(2,54),(3,4),(4,4)]⟩) (by kernel_rfl) rfl (dB:=⟨false,1,1,[.leaf],[.bool false],.bool⟩) (by kernel_rfl) rfl (dEs:=⟨false,1,24,[.sl .own [.leaf,.leaf,.sl .own [.leaf]]],[.lst 0 []],.slc 156⟩) (by kernel_rfl) rfl (dE:=⟨true,3,40,[.leaf,.leaf,.sl .own [.leaf]],[.int .i64 0,.int .i64 0,.lst 0 []],.st [(0,2),(1,2),(2,27)]⟩) (by kernel_rfl) rfl (dI:=⟨false,1,8,[.leaf],[.int .i64 0],.int .i64⟩) (by kernel_rfl) rfl (dFs:=⟨false,1,24,[.sl .own [.leaf]],[.lst 0 []],.slc 54⟩) (by kernel_rfl) rfl (dF:=⟨false,1,4,[.leaf],[.flt .f32 0],.flt .f32⟩) (by kernel_rfl) rfl hw0
 obtain ⟨ts1,r1,rfl,hw1,h2⟩:=h1.cons_inv (d:=⟨false,1,8,[.leaf],[.int .i64 0],.int .i64⟩) (by kernel_rfl)
 obtain ⟨a1,rfl,g1⟩:=hw1.int_inv (k:=.i64) (d:=⟨false,1,8,[.leaf],[.int .i64 0],.int .i64⟩) (by kernel_rfl) rfl
 obtain ⟨ts2,r2,rfl,hw2,h3⟩:=h2.cons_inv (d:=⟨false,1,8,[.leaf],[.int .i64 0],.int .i64⟩) (by kernel_rfl)
 obtain ⟨a2,rfl,g2⟩:=hw2.int_inv (k:=.i64) (d:=⟨false,1,8,[.leaf],[.int .i64 0],.int .i64⟩) (by kernel_rfl) rfl
 obtain rfl:=h3.nil_inv
 obtain ⟨N,hN⟩:=exact_ cl0 ss0 gs0 gh0 a1 g1 a2 g2
 exact ⟨N,_,f3.ok N (cl0.length,effs cl0,ss0.length,strps ss0,a1,a2) true hN⟩
end Go.Proofs.YtdobhipbgpiceaaGreat.D
end
section
namespace Go.Proofs.YtdobhipbgpiceaaGreat.fnExactChannelOf
open Go Go.ChangeShapes Go.WideShapes Go.ChangeAt Go.RowKit Go.Desk
set_option linter.unusedVariables false
theorem own : ownKnob Tryz.prog.godebug = none:=by kernel_rfl
theorem laidOut : laidOutB Tryz.prog = true:=by kernel_rfl
set_option maxRecDepth 100000 in
theorem lifted (os : Os) (started : os.Started) (H : Type) (enc : TypeId × Value → H) :
  ReturnsInHanded {} Tryz.checked os 3 .any (Rows.fnExactChannelOfSpec.pre6 enc Tryz.prog Tryz.f3 Rows.fnExactChannelOfRow.domain false) (Rows.fnExactChannelOfSpec.post enc Tryz.prog Tryz.f3 false true false false):=by
 refine returnsInHanded_of_change (C:=Tryz.checked) own started (by kernel_rfl) Tryz.func3
  (ChangeSpec.witness6 (enc:=enc) (C:=Tryz.checked) false ⟨#[],#[.agg #[.slice none 0 0,.slice none 0 0],.int .i64 0,.int .i64 0],[]⟩ 8 (by kernel_rfl) (by kernel_rfl) (by kernel_rfl) (by kernel_rfl)) ?_
 intro W base args ds gs before hval hW hcnd _
 exact law_contract (c:=D.c3) Tryz.checked.mixed D.tysOk D.fnOk Tryz.func3 (by kernel_rfl) (by kernel_rfl) (by kernel_rfl) Tryz.underlying4 rfl
  (fun ds h => by
    rw [show Tryz.f3.params.toList.length = 3 by kernel_rfl] at h
    match ds,h with
    | [_,_,_],_ => rfl)
  laidOut (N:=8) (by kernel_rfl) (by kernel_rfl) D.law3 hval hW
theorem over : Rows.fnExactChannelOfRow.holds Tryz.pinned (OpenSpec.ofChange Rows.fnExactChannelOfSpec) :=
 OpenClaim.holds_of_wide 3 Tryz.f3 rfl rfl rfl rfl rfl rfl rfl ⟨rfl,rfl,rfl,rfl,rfl⟩ rfl rfl rfl rfl rfl (by kernel_rfl) Tryz.func3 (by kernel_rfl)
  (of_decide_eq_true (by kernel_rfl)) (by unfold Func.isWrapper; first | (rw [if_pos (by decide +kernel)]; kernel_rfl) | (rw [if_neg (by decide +kernel)]; exact ⟨rfl,rfl⟩))
  (fun os started H enc _ => lifted os started H enc)
theorem proved : Rows.FnExactChannelOfSaid:=over
#print axioms proved
end Go.Proofs.YtdobhipbgpiceaaGreat.fnExactChannelOf
namespace Go.Proofs.YtdobhipbgpiceaaGreat
theorem fnExactChannelOf_holds : Rows.FnExactChannelOfSaid:=fnExactChannelOf.proved
end Go.Proofs.YtdobhipbgpiceaaGreat
end
