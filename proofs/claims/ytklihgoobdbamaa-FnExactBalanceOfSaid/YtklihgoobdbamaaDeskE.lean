/- A reading of the loaded code over plain data, and its soundness (part 5 of 5). Own work of this workplace, put together by program. -/
import Derived.Test.YtklihgoobdbamaaDeskD
set_option linter.all false
section
/- What float words stand for, as rational numbers: rounding to the nearest word. -/
namespace Go.Desk
open Go

/-! ### Powers of two -/
def p2 (e : Int) : Rat := (2 : Rat) ^ e
theorem p2_pos (e : Int) : 0 < p2 e := Rat.zpow_pos (by decide)
theorem p2_add (a b : Int) : p2 (a + b) = p2 a * p2 b := Rat.zpow_add (by decide) a b
theorem p2_zero : p2 0 = 1 := Rat.zpow_zero _
theorem p2_nat (n : Nat) : p2 (n : Int) = ((2 ^ n : Nat) : Rat) := by
  induction n with
  | zero => exact p2_zero
  | succ n ih =>
    rw [show ((n + 1 : Nat) : Int) = (n : Int) + 1 by omega, p2_add, ih, Nat.pow_succ, Rat.natCast_mul, show p2 1 = (2 : Rat) from Rat.zpow_one _]
    rfl
theorem p2_ge_one (n : Nat) : 1 ≤ p2 (n : Int) := by
  rw [p2_nat]
  have : 1 ≤ 2 ^ n := Nat.one_le_two_pow
  exact_mod_cast this
theorem p2_le {a b : Int} (h : a ≤ b) : p2 a ≤ p2 b := by
  obtain ⟨n, hn⟩ := Int.eq_ofNat_of_zero_le (show 0 ≤ b - a by omega)
  rw [show b = a + (n : Int) by omega, p2_add]
  have := Rat.mul_le_mul_of_nonneg_left (p2_ge_one n) (Rat.le_of_lt (p2_pos a))
  rwa [Rat.mul_one] at this
theorem p2_lt {a b : Int} (h : a < b) : p2 a < p2 b := by
  have h1 : p2 (a + 1) ≤ p2 b := p2_le (by omega)
  have h2 : p2 (a + 1) = p2 a * 2 := by rw [p2_add, show p2 1 = (2 : Rat) from Rat.zpow_one _]
  have h3 := p2_pos a
  grind

/-- m * 2 ^ e -/
def mv (m : Nat) (e : Int) : Rat := (m : Rat) * p2 e
theorem mv_nonneg (m : Nat) (e : Int) : 0 ≤ mv m e := Rat.mul_nonneg (by exact_mod_cast Nat.zero_le m) (Rat.le_of_lt (p2_pos e))
theorem mv_zero (e : Int) : mv 0 e = 0 := by unfold mv; rw [show ((0 : Nat) : Rat) = 0 from rfl, Rat.zero_mul]
theorem mv_shift (m k : Nat) (e : Int) : mv (m * 2 ^ k) e = mv m (e + k) := by
  unfold mv
  rw [Rat.natCast_mul, p2_add, p2_nat]
  grind
theorem mv_le {m n : Nat} {e : Int} : mv m e ≤ mv n e ↔ m ≤ n := by
  unfold mv
  constructor
  · intro h
    have := Rat.le_of_mul_le_mul_right h (p2_pos e)
    exact_mod_cast this
  · intro h
    exact Rat.mul_le_mul_of_nonneg_right (by exact_mod_cast h) (Rat.le_of_lt (p2_pos e))
theorem mv_lt {m n : Nat} {e : Int} : mv m e < mv n e ↔ m < n := by
  rw [← Rat.not_le, mv_le]; omega
theorem mv_one (e : Int) : mv 1 e = p2 e := by unfold mv; rw [show ((1 : Nat) : Rat) = 1 from rfl, Rat.one_mul]
theorem mv_pow (k : Nat) (e : Int) : mv (2 ^ k) e = p2 (e + k) := by
  have := mv_shift 1 k e
  rw [Nat.one_mul] at this
  rw [this, mv_one]

/-! ### A cut -/
theorem cut_bounds (s : Bool) (n d B : Nat) : (n ≤ B * 2 ^ d → Ieee.Toward.cut .even s n d ≤ B) ∧ (B * 2 ^ d ≤ n → B ≤ Ieee.Toward.cut .even s n d) := by
  unfold Ieee.Toward.cut
  simp only [Nat.shiftLeft_eq, Nat.one_mul]
  rcases Nat.lt_or_ge (n.log2 + 2) d with hd | hd
  · rw [Nat.min_eq_right (Nat.le_of_lt hd)]
    have h1 : n < 2 ^ (n.log2 + 1) := Nat.lt_log2_self
    have h2 : 2 ^ (n.log2 + 2) = 2 * 2 ^ (n.log2 + 1) := by rw [Nat.pow_succ]; omega
    have h3 : n < 2 ^ (n.log2 + 2) := by omega
    rw [Nat.div_eq_of_lt h3, Nat.mod_eq_of_lt h3]
    have hm : (decide (2 ^ (n.log2 + 2) < 2 * n) || (2 ^ (n.log2 + 2) == 2 * n && (0 : Nat) % 2 == 1)) = false := by
      simp; omega
    rw [hm]
    constructor
    · intro _; exact Nat.zero_le _
    · intro h
      have h4 : 2 ^ (n.log2 + 2) ≤ 2 ^ d := Nat.pow_le_pow_right (by decide) (by omega)
      rcases Nat.eq_zero_or_pos B with rfl | hB
      · exact Nat.zero_le _
      · have : 2 ^ d ≤ B * 2 ^ d := Nat.le_mul_of_pos_left _ hB
        omega
  · rw [Nat.min_eq_left hd]
    have hg : 0 < 2 ^ d := Nat.two_pow_pos d
    generalize 2 ^ d = g at hg ⊢
    have hn : g * (n / g) + n % g = n := Nat.div_add_mod n g
    have hr : n % g < g := Nat.mod_lt _ hg
    generalize hq : n / g = q at hn ⊢
    generalize hrr : n % g = r at hn hr ⊢
    constructor
    · intro h
      cases hm : (decide (g < 2 * r) || (g == 2 * r && q % 2 == 1))
      · simp only [Bool.toNat_false, Nat.add_zero]
        have : g * q ≤ B * g := by omega
        rw [Nat.mul_comm] at this
        exact Nat.le_of_mul_le_mul_right this hg
      · simp only [Bool.toNat_true]
        have hr0 : 0 < r := by
          simp only [Bool.or_eq_true, decide_eq_true_eq, Bool.and_eq_true, beq_iff_eq] at hm
          omega
        have : g * q < g * B := by rw [Nat.mul_comm g B]; omega
        exact Nat.lt_of_mul_lt_mul_left this
    · intro h
      have : B ≤ q := by
        rw [← hq]
        exact (Nat.le_div_iff_mul_le hg).2 h
      omega

/-! ### Words -/
/-- what a datum stands for -/
def sg (s : Bool) (v : Rat) : Rat := if s then -v else v
def fval (k : FloatKind) (x : Nat) : Rat := match k.decode x with
  | .number s m e => sg s (mv m e)
  | _ => 0
def Finite (k : FloatKind) (x : Nat) : Prop := ∃ s m e, k.decode x = .number s m e

/-- a format's numbers, but for the greatest size -/
def Rep0 (k : FloatKind) (B : Rat) : Prop := ∃ M P, M ≤ 2 * k.format.binade ∧ k.format.leastPlace ≤ P ∧ B = mv M P

def topE : FloatKind → Int
  | .f32 => 128
  | .f64 => 1024

theorem fmt (k : FloatKind) : ∃ K : Nat, 2 ≤ K ∧ k.format.infRung = K * k.format.binade ∧ topE k = k.format.leastPlace + (k.format.fractionBits : Int) + (K : Int) - 1 ∧ k.format.infRung < k.format.signWeight ∧ k.format.binade = 2 ^ k.format.fractionBits := by
  cases k
  · exact ⟨255, by decide, by decide, by decide, by decide, rfl⟩
  · exact ⟨2047, by decide, by decide, by decide, by decide, rfl⟩

theorem word_neg {f : Ieee.Format} {s : Bool} {r : Nat} (h : r < f.signWeight) : (f.word s r / f.signWeight % 2 == 1) = s := by
  have hp : 0 < f.signWeight := by omega
  unfold Ieee.Format.word
  cases s
  · simp [Nat.div_eq_of_lt h]
  · simp only [if_true]
    rw [Nat.add_div_left _ hp, Nat.div_eq_of_lt h]; rfl
theorem word_rung {f : Ieee.Format} {s : Bool} {r : Nat} (h : r < f.signWeight) : f.word s r % f.signWeight = r := by
  unfold Ieee.Format.word
  split
  · rw [Nat.add_mod_left, Nat.mod_eq_of_lt h]
  · rw [Nat.mod_eq_of_lt h]

/-- a word is read -/
theorem read_rung (k : FloatKind) (s : Bool) {j kept : Nat} (h1 : kept ≤ 2 * k.format.binade) (h2 : 0 < j → k.format.binade ≤ kept) (h3 : j * k.format.binade + kept < k.format.infRung) :
    ∃ m e, k.format.read (k.format.word s (j * k.format.binade + kept)) = .number s m e ∧ mv m e = mv kept (k.format.leastPlace + (j : Int)) ∧ m ≤ 2 * k.format.binade ∧ k.format.leastPlace ≤ e := by
  obtain ⟨K, -, -, -, hw, hb⟩ := fmt k
  have hbp : 0 < k.format.binade := by rw [hb]; exact Nat.two_pow_pos _
  have hr : j * k.format.binade + kept < k.format.signWeight := by omega
  unfold Ieee.Format.read
  simp only [word_neg hr, word_rung hr]
  generalize hbb : k.format.binade = b at *
  by_cases c1 : j * b + kept < b
  · rw [if_pos c1]
    have hj : j = 0 := by
      rcases Nat.eq_zero_or_pos j with h | h
      · exact h
      · have := Nat.le_mul_of_pos_left b h; omega
    subst hj
    refine ⟨_, _, rfl, ?_, by omega, Int.le_refl _⟩
    rw [Nat.zero_mul, Nat.zero_add]; simp
  · rw [if_neg c1, if_pos h3]
    rcases Nat.lt_or_ge kept b with hk | hk
    · rcases Nat.eq_zero_or_pos j with h | h
      · subst h; omega
      · have := h2 h; omega
    · rcases Nat.lt_or_ge kept (2 * b) with hk2 | hk2
      · have e1 : (j * b + kept) / b = j + 1 := by
          rw [show j * b + kept = (kept - b) + b * (j + 1) by rw [Nat.mul_add, Nat.mul_comm b j]; omega, Nat.add_mul_div_left _ _ hbp, Nat.div_eq_of_lt (by omega)]; omega
        have e2 : (j * b + kept) % b = kept - b := by
          rw [show j * b + kept = (kept - b) + b * (j + 1) by rw [Nat.mul_add, Nat.mul_comm b j]; omega, Nat.add_mul_mod_self_left, Nat.mod_eq_of_lt (by omega)]
        refine ⟨_, _, rfl, ?_, by rw [e2]; omega, by rw [e1]; omega⟩
        rw [e1, e2, show b + (kept - b) = kept by omega, Nat.add_sub_cancel]
      · have hk3 : kept = 2 * b := by omega
        subst hk3
        have e1 : (j * b + 2 * b) / b = j + 2 := by rw [← Nat.add_mul, Nat.mul_div_cancel _ hbp]
        have e2 : (j * b + 2 * b) % b = 0 := by rw [← Nat.add_mul, Nat.mul_mod_left]
        refine ⟨_, _, rfl, ?_, by rw [e2]; omega, by rw [e1]; omega⟩
        rw [e1, e2, Nat.add_zero, show (j + 2 - 1 : Nat) = j + 1 by omega, show 2 * b = b * 2 ^ 1 by omega, mv_shift]
        congr 1; omega

/-- the nearest word to a size: it is on the same side of each number of the format -/
theorem round_mag (k : FloatKind) (s : Bool) (m : Nat) (e : Int) {B0 : Rat} (hB0 : Rep0 k B0) (hv : mv m e ≤ B0) (hf : B0 < p2 (topE k)) :
    ∃ m' e', k.format.read (k.format.nearest s m e) = .number s m' e' ∧ m' ≤ 2 * k.format.binade ∧ k.format.leastPlace ≤ e' ∧ ∀ B, Rep0 k B → (mv m e ≤ B → mv m' e' ≤ B) ∧ (B ≤ mv m e → B ≤ mv m' e') := by
  obtain ⟨K, hK, hinf, htop, hw, hb⟩ := fmt k
  have hbp : 0 < k.format.binade := by rw [hb]; exact Nat.two_pow_pos _
  unfold Ieee.Format.nearest
  by_cases hm : m = 0
  · subst hm
    rw [if_pos rfl]
    have h3 : 0 * k.format.binade + 0 < k.format.infRung := by rw [hinf, Nat.zero_mul, Nat.zero_add]; exact Nat.mul_pos (by omega) hbp
    obtain ⟨m', e', r1, r2, r3, r4⟩ := read_rung k s (j := 0) (kept := 0) (Nat.zero_le _) (by omega) h3
    rw [Nat.zero_mul] at r1
    refine ⟨m', e', r1, r3, r4, fun B _ => ?_⟩
    rw [r2, mv_zero, mv_zero]
    exact ⟨id, id⟩
  rw [if_neg hm]
  generalize hla : max (e + (m.log2 : Int) - (k.format.fractionBits : Int)) k.format.leastPlace = last
  have hl1 : k.format.leastPlace ≤ last := by omega
  have hl2 : e + (m.log2 : Int) - (k.format.fractionBits : Int) ≤ last := by omega
  have hl3 : last ≠ k.format.leastPlace → last = e + (m.log2 : Int) - (k.format.fractionBits : Int) := by omega
  simp only
  generalize hn : m <<< (e - last).toNat = n
  generalize hd : (last - e).toNat = d
  -- the size in units of the cut
  have hval : mv n (last - (d : Int)) = mv m e := by
    rw [← hn, Nat.shiftLeft_eq, mv_shift]
    congr 1; omega
  have hlow : p2 (e + (m.log2 : Int)) ≤ mv m e := by
    have : 2 ^ m.log2 ≤ m := Nat.log2_self_le hm
    have h := (mv_le (e := e)).2 this
    rwa [mv_pow] at h
  have hhigh : mv m e < p2 (e + (m.log2 : Int) + 1) := by
    have : m < 2 ^ (m.log2 + 1) := Nat.lt_log2_self
    have h := (mv_lt (e := e)).2 this
    rw [mv_pow] at h
    rw [show e + (m.log2 : Int) + 1 = e + ((m.log2 + 1 : Nat) : Int) by omega]; exact h
  generalize hk : Ieee.Toward.cut .even s n d = kept
  have hcut : ∀ B : Nat, (mv m e ≤ mv B last → mv kept last ≤ mv B last) ∧ (mv B last ≤ mv m e → mv B last ≤ mv kept last) := by
    intro B
    have hB : mv B last = mv (B * 2 ^ d) (last - (d : Int)) := by rw [mv_shift]; congr 1; omega
    have := cut_bounds s n d B
    rw [hk] at this
    rw [mv_le, mv_le]
    rw [← hval, hB, mv_le, mv_le]
    exact this
  have hkb : kept ≤ 2 * k.format.binade := by
    have h := (hcut (2 * k.format.binade)).1 (by
      rw [hb, show 2 * 2 ^ k.format.fractionBits = 2 ^ (k.format.fractionBits + 1) by rw [Nat.pow_succ]; omega, mv_pow]
      refine Rat.le_trans (Rat.le_of_lt hhigh) (p2_le ?_)
      omega)
    exact mv_le.1 h
  have hkl : last ≠ k.format.leastPlace → k.format.binade ≤ kept := by
    intro h
    have h := (hcut k.format.binade).2 (by
      rw [hb, mv_pow]
      refine Rat.le_trans (p2_le ?_) hlow
      have := hl3 h
      omega)
    exact mv_le.1 h
  have key : ∀ B, Rep0 k B → (mv m e ≤ B → mv kept last ≤ B) ∧ (B ≤ mv m e → B ≤ mv kept last) := by
    rintro B ⟨M, P, hM, hP, rfl⟩
    by_cases hPl : last ≤ P
    · have hB : mv M P = mv (M * 2 ^ (P - last).toNat) last := by rw [mv_shift]; congr 1; omega
      rw [hB]; exact hcut _
    · have hl4 := hl3 (by omega)
      have hMB : mv M P ≤ mv k.format.binade last := by
        refine Rat.le_trans (mv_le.2 hM) ?_
        rw [hb, show 2 * 2 ^ k.format.fractionBits = 2 ^ (k.format.fractionBits + 1) by rw [Nat.pow_succ]; omega, mv_pow, mv_pow]
        exact p2_le (by omega)
      have hBm : mv k.format.binade last ≤ mv m e := by
        rw [hb, mv_pow]
        exact Rat.le_trans (p2_le (by omega)) hlow
      constructor
      · intro h
        have h1 : mv m e ≤ mv k.format.binade last := Rat.le_trans h hMB
        exact Rat.le_trans ((hcut _).1 h1) (Rat.le_trans hBm h)
      · intro _
        exact Rat.le_trans hMB ((hcut _).2 hBm)
  have hfin : (last - k.format.leastPlace).toNat * k.format.binade + kept < k.format.infRung := by
    rcases Nat.lt_or_ge ((last - k.format.leastPlace).toNat * k.format.binade + kept) k.format.infRung with h | h
    · exact h
    · exfalso
      have hR : mv kept last < p2 (topE k) := by
        have h1 := (key B0 hB0).1 hv
        grind
      rw [hinf] at h
      generalize hj : (last - k.format.leastPlace).toNat = j at h
      generalize hbb : k.format.binade = b at *
      have hj2 : K ≤ j + 2 := by
        rcases Nat.lt_or_ge (j + 2) K with h' | h'
        · have : (j + 3) * b ≤ K * b := Nat.mul_le_mul_right _ h'
          rw [Nat.add_mul] at this
          omega
        · exact h'
      have hge : p2 (topE k) ≤ mv kept last := by
        rcases Nat.lt_or_ge j (K - 1) with h' | h'
        · have hj3 : K = j + 2 := by omega
          subst hj3
          rw [Nat.add_mul] at h
          have : kept = 2 ^ (k.format.fractionBits + 1) := by rw [Nat.pow_succ, ← hb]; omega
          rw [this, mv_pow]
          exact p2_le (by omega)
        · have : mv (2 ^ k.format.fractionBits) last ≤ mv kept last := mv_le.2 (by rw [← hb]; exact hkl (by omega))
          refine Rat.le_trans ?_ this
          rw [mv_pow]
          exact p2_le (by omega)
      grind
  rw [Nat.min_eq_left (Nat.le_of_lt hfin)]
  obtain ⟨m', e', r1, r2, r3, r4⟩ := read_rung k s hkb (fun h => hkl (by omega)) hfin
  refine ⟨m', e', r1, r3, r4, fun B hB => ?_⟩
  rw [r2, show k.format.leastPlace + ((last - k.format.leastPlace).toNat : Int) = last by omega]
  exact key B hB
end Go.Desk
end
section
/- Roots of single numbers fit single numbers. -/
namespace Go.Desk
open Go

theorem rootFrom_le (n : Nat) : ∀ (todo root : Nat), root * root ≤ n → Ieee.Datum.rootFrom n todo root * Ieee.Datum.rootFrom n todo root ≤ n := by
  intro todo
  induction todo with
  | zero => intro root h; exact h
  | succ todo ih =>
    intro root h
    simp only [Ieee.Datum.rootFrom]
    split
    · rename_i h'; exact ih _ h'
    · exact ih _ h

theorem mv_add (a b : Nat) (e : Int) : mv (a + b) e = mv a e + mv b e := by
  unfold mv; rw [Rat.natCast_add]; grind
theorem mv_mul (a b : Nat) (e f : Int) : mv (a * b) (e + f) = mv a e * mv b f := by
  unfold mv; rw [Rat.natCast_mul, p2_add]; grind

theorem sq_le {a b : Rat} (hb : 0 ≤ b) (h : a * a ≤ b * b) : a ≤ b := by
  rcases Rat.le_total (a := a) (b := b) with h1 | h1
  · exact h1
  · rcases Decidable.em (a = b) with h2 | h2
    · rw [h2]; exact Rat.le_refl
    · have h3 : b < a := by grind
      have h4 : b * b ≤ b * a := Rat.mul_le_mul_of_nonneg_left h1 hb
      have h5 : b * a < a * a := Rat.mul_lt_mul_of_pos_right h3 (by grind)
      grind

theorem root_bound {d : Nat} {s : Bool} {m : Nat} {i E : Int} {r : Ieee.Datum} (h : Ieee.Datum.root d (.number s m i) = some r) (hv : mv m i ≤ p2 (E + E)) : ∃ s' m' i', r = .number s' m' i' ∧ mv m' i' ≤ p2 (E + 1) := by
  simp only [Ieee.Datum.root] at h
  by_cases hm : m = 0
  · subst hm
    simp only [if_true, Option.some.injEq] at h
    refine ⟨_, _, _, h.symm, ?_⟩
    rw [mv_zero]; exact Rat.le_of_lt (p2_pos _)
  · rw [if_neg hm] at h
    cases s
    · simp only [Bool.false_eq_true, if_false, Option.some.injEq] at h
      generalize hmo : 2 * d - m.log2 = mo at h
      generalize hmo2 : mo + ((i - (mo : Int)) % 2).toNat = mo2 at h
      generalize hn : m <<< mo2 = n at h
      generalize hw : Ieee.Datum.rootFrom n (n.log2 / 2 + 1) 0 = w at h
      have hww : w * w ≤ n := by rw [← hw]; exact rootFrom_le n _ 0 (Nat.zero_le _)
      refine ⟨_, _, _, h.symm, ?_⟩
      generalize hp : (i - (mo2 : Int)) / 2 = p
      have hp2 : i - (mo2 : Int) = p + p := by omega
      have hnv : mv n (p + p) = mv m i := by
        rw [← hn, Nat.shiftLeft_eq, mv_shift]; congr 1; omega
      have h1 : mv w p * mv w p ≤ p2 E * p2 E := by
        rw [← mv_mul, ← p2_add]
        exact Rat.le_trans (mv_le.2 hww) (by rw [hnv]; exact hv)
      have h2 : mv w p ≤ p2 E := sq_le (Rat.le_of_lt (p2_pos _)) h1
      have h3 : p2 i ≤ p2 (E + E) := by
        refine Rat.le_trans ?_ hv
        rw [← mv_one]; exact mv_le.2 (by omega)
      have hi : i ≤ E + E := by
        rcases Int.lt_or_le (E + E) i with h' | h'
        · have := p2_lt h'; grind
        · exact h'
      have h4 : p2 p ≤ p2 E := p2_le (by omega)
      have h5 : mv (2 * w + (w * w != n).toNat) (p - 1) ≤ mv (2 * (w + 1)) (p - 1) := mv_le.2 (by have := Bool.toNat_le (w * w != n); omega)
      refine Rat.le_trans h5 ?_
      rw [show 2 * (w + 1) = (w + 1) * 2 ^ 1 by omega, mv_shift, show p - 1 + ((1 : Nat) : Int) = p by omega, mv_add, mv_one, p2_add, show p2 1 = (2 : Rat) from Rat.zpow_one _]
      grind
    · simp at h

theorem rep_p2 (k : FloatKind) {e : Int} (h : k.format.leastPlace ≤ e) : Rep0 k (p2 e) := ⟨1, e, by cases k <;> decide, h, (mv_one e).symm⟩

theorem single_le {x : Nat} {s : Bool} {m : Nat} {e : Int} (h : FloatKind.f32.decode x = .number s m e) : mv m e ≤ p2 128 := by
  obtain ⟨h1, -, h3⟩ := single_finite (x := x) h
  have h4 : mv m e ≤ mv (2 ^ 24) e := mv_le.2 (by omega)
  rw [mv_pow] at h4
  exact Rat.le_trans h4 (p2_le (by omega))

/-- a number of a bounded size is written down as a number of that bound -/
theorem encode_le (k : FloatKind) {s : Bool} {m : Nat} {e E : Int} (h : mv m e ≤ p2 E) (h1 : k.format.leastPlace ≤ E) (h2 : E < topE k) : ∃ m' e', k.decode (k.encode (.number s m e)) = .number s m' e' ∧ mv m' e' ≤ p2 E := by
  obtain ⟨m', e', r1, -, -, r4⟩ := round_mag k s m e (rep_p2 k h1) h (p2_lt h2)
  exact ⟨m', e', r1, (r4 _ (rep_p2 k h1)).1 h⟩

theorem fltToFlt_fits {k k' : FloatKind} {x : Nat} {E : Int} (hk : k ≠ k') (h1 : k'.format.leastPlace ≤ E) (h2 : E < topE k') (h : ∀ s m e, k.decode x = .number s m e → mv m e ≤ p2 E) : ∃ y, fltToFlt k x k' = some y := by
  unfold fltToFlt
  rw [if_neg hk]
  cases hd : k.decode x with
  | nan s t => exact ⟨_, rfl⟩
  | infinity s => exact ⟨_, rfl⟩
  | number s m e =>
    obtain ⟨m', e', r1, -⟩ := encode_le k' (s := s) (h s m e hd) h1 h2
    refine ⟨k'.encode (.number s m e), ?_⟩
    simp only [r1, Ieee.Datum.isInfinity]
    rfl

theorem wide_le {x : Nat} {s : Bool} {m : Nat} {e : Int} (h : FloatKind.f64.decode (wide x) = .number s m e) : mv m e ≤ p2 128 := by
  have hw := fltToFlt_wide x
  unfold fltToFlt at hw
  rw [if_neg (by decide)] at hw
  cases hd : FloatKind.f32.decode x with
  | nan s' t =>
    rw [hd] at hw
    simp only [Option.some.injEq] at hw
    rw [← hw] at h
    cases (show FloatKind.f64.decode (qnan .f64) = _ from h).symm.trans rfl
  | infinity s' =>
    rw [hd] at hw
    simp only [Option.some.injEq] at hw
    rw [← hw] at h
    cases s' <;> cases h
  | number s' m' e' =>
    rw [hd] at hw
    obtain ⟨m2, e2, r1, r2⟩ := encode_le .f64 (s := s') (single_le hd) (by decide) (by decide)
    simp only [r1, Ieee.Datum.isInfinity] at hw
    have hw : FloatKind.f64.encode (.number s' m' e') = wide x := by simpa using hw
    rw [← hw, r1] at h
    cases h
    exact r2
theorem sqrt_narrow (x : Nat) : ∃ y, fltToFlt .f64 (fsqrt (wide x)) .f32 = some y := by
  refine fltToFlt_fits (E := 66) (by decide) (by decide) (by decide) fun s m e h => ?_
  unfold fsqrt at h
  split at h
  · rename_i r hr
    unfold Ieee.Format.sqrt at hr
    simp only [Option.map_eq_some_iff] at hr
    obtain ⟨d, hd, hr⟩ := hr
    cases hw : FloatKind.f64.decode (wide x) with
    | nan s' t =>
      have hw : FloatKind.f64.format.read (wide x) = .nan s' t := hw
      rw [hw] at hd; simp [Ieee.Datum.root] at hd
    | infinity s' =>
      have hw : FloatKind.f64.format.read (wide x) = .infinity s' := hw
      rw [hw] at hd
      cases s'
      · simp only [Ieee.Datum.root, Bool.false_eq_true, if_false, Option.some.injEq] at hd
        subst hd
        rw [← hr] at h
        cases h
      · simp [Ieee.Datum.root] at hd
    | number s' m' e' =>
      have hv := wide_le hw
      have hw : FloatKind.f64.format.read (wide x) = .number s' m' e' := hw
      rw [hw] at hd
      obtain ⟨s2, m2, e2, rfl, hb⟩ := root_bound (E := 64) hd hv
      obtain ⟨m3, e3, r1, r2⟩ := encode_le .f64 (s := s2) hb (by decide) (by decide)
      have hr : FloatKind.f64.encode (.number s2 m2 e2) = r := hr
      rw [← hr, r1] at h
      cases h
      exact Rat.le_trans r2 (p2_le (by decide))
  · cases (show FloatKind.f64.decode (qnan .f64) = _ from h).symm.trans rfl

/-- the root of a single number -/
def root32 (x : Nat) : Nat := match fltToFlt .f64 (fsqrt (wide x)) .f32 with
  | some y => y
  | none => 0
theorem fltToFlt_root (x : Nat) : fltToFlt .f64 (fsqrt (wide x)) .f32 = some (root32 x) := by
  obtain ⟨y, hy⟩ := sqrt_narrow x
  unfold root32
  rw [hy]
end Go.Desk
end
section
/- What float words stand for: sums, products, order, whole numbers. -/
namespace Go.Desk
open Go

/-- signed sizes of a format -/
def Rep (k : FloatKind) (B : Rat) : Prop := ∃ s C, Rep0 k C ∧ B = sg s C
theorem sg_false (v : Rat) : sg false v = v := rfl
theorem sg_true (v : Rat) : sg true v = -v := rfl
theorem rep0_nonneg {k : FloatKind} {B : Rat} (h : Rep0 k B) : 0 ≤ B := by
  obtain ⟨M, P, -, -, rfl⟩ := h; exact mv_nonneg _ _
theorem Rep0.rep {k : FloatKind} {B : Rat} (h : Rep0 k B) : Rep k B := ⟨false, B, h, rfl⟩
theorem Rep0.neg {k : FloatKind} {B : Rat} (h : Rep0 k B) : Rep k (-B) := ⟨true, B, h, rfl⟩

/-- x stands for the number v -/
def Val (k : FloatKind) (x : Nat) (v : Rat) : Prop := ∃ s m e, k.decode x = .number s m e ∧ v = sg s (mv m e) ∧ m ≤ 2 * k.format.binade ∧ k.format.leastPlace ≤ e

theorem Val.rep {k : FloatKind} {x : Nat} {v : Rat} (h : Val k x v) : Rep k v := by
  obtain ⟨s, m, e, -, rfl, h1, h2⟩ := h
  exact ⟨s, _, ⟨m, e, h1, h2, rfl⟩, rfl⟩
theorem Val.inj {k : FloatKind} {x : Nat} {v w : Rat} (h : Val k x v) (h' : Val k x w) : v = w := by
  obtain ⟨s, m, e, h1, rfl, -⟩ := h
  obtain ⟨s', m', e', h2, rfl, -⟩ := h'
  rw [h1] at h2; cases h2; rfl

/-- R is on the same side of each number of the format as v -/
def Near (k : FloatKind) (v R : Rat) : Prop := ∀ B, Rep k B → (v ≤ B → R ≤ B) ∧ (B ≤ v → B ≤ R)

theorem sg_neg_le {s : Bool} {a b : Rat} (h : sg s a ≤ sg s b) : (s = false → a ≤ b) ∧ (s = true → b ≤ a) := by
  cases s <;> simp [sg] at * <;> grind

/-- a number is written down -/
theorem write_val (k : FloatKind) (s : Bool) (m : Nat) (e : Int) {B0 : Rat} (hB0 : Rep0 k B0) (hv : mv m e ≤ B0) (hf : B0 < p2 (topE k)) :
    ∃ R, Val k (k.encode (.number s m e)) R ∧ Near k (sg s (mv m e)) R := by
  obtain ⟨m', e', r1, r2, r3, r4⟩ := round_mag k s m e hB0 hv hf
  refine ⟨sg s (mv m' e'), ⟨s, m', e', r1, rfl, r2, r3⟩, ?_⟩
  rintro B ⟨t, C, hC, rfl⟩
  obtain ⟨c1, c2⟩ := r4 C hC
  have hC0 := rep0_nonneg hC
  have h0 := mv_nonneg m e
  have h0' := mv_nonneg m' e'
  have hz : mv m e ≤ 0 → mv m' e' ≤ 0 := by
    intro h
    have hz : Rep0 k 0 := ⟨0, k.format.leastPlace, Nat.zero_le _, Int.le_refl _, (mv_zero _).symm⟩
    exact (r4 0 hz).1 h
  cases s <;> cases t <;> simp only [sg] <;> constructor <;> intro h <;> simp only [Bool.false_eq_true, if_false, if_true] at * <;> grind
end Go.Desk
end
