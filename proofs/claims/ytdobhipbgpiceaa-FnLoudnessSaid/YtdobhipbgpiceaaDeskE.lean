/- A reading of the loaded code over plain data, and its soundness (part 5 of 6). Own work of this workplace, put together by program. -/
import Derived.Test.YtdobhipbgpiceaaDeskD
set_option linter.all false
section
/- Plain laws: a law's arguments, lists of numbers, wide numbers. -/
namespace Go.Desk
open Go

def fls (k : FloatKind) (xs : List Nat) : List T := xs.map (.flt k)
def its (k : IntKind) (xs : List Int) : List T := xs.map (.int k)
def GoodF (k : FloatKind) (x : Nat) : Prop := canon k x = x ∧ (Lit.float k x).wf = true
def GoodI (k : IntKind) (n : Int) : Prop := k.min ≤ n ∧ n ≤ k.max

section
variable {E : Env} {t : Nat} {d : TD} {ts : List T}
theorem WT.slc_inv {e : Nat} (h : WT E t ts) (hd : E.ty t = some d) (hk : d.kd = .slc e) : ∃ n cs, ts = [.lst n cs] ∧ n ≤ maxLen ∧ WTs E e n cs := by
  cases h with
  | slc h' hk' hl hs =>
    rw [hd] at h'; cases h'
    rw [hk] at hk'; cases hk'
    exact ⟨_, _, rfl, hl, hs⟩
  | _ h' hk' => rw [hd] at h'; cases h'; rw [hk] at hk'; cases hk'
theorem WT.int_inv {k : IntKind} (h : WT E t ts) (hd : E.ty t = some d) (hk : d.kd = .int k) : ∃ n, ts = [.int k n] ∧ GoodI k n := by
  cases h with
  | int h' hk' h1 h2 =>
    rw [hd] at h'; cases h'
    rw [hk] at hk'; cases hk'
    exact ⟨_, rfl, h1, h2⟩
  | _ h' hk' => rw [hd] at h'; cases h'; rw [hk] at hk'; cases hk'
theorem WT.flt_inv {k : FloatKind} (h : WT E t ts) (hd : E.ty t = some d) (hk : d.kd = .flt k) : ∃ x, ts = [.flt k x] ∧ GoodF k x := by
  cases h with
  | flt h' hk' h1 h2 =>
    rw [hd] at h'; cases h'
    rw [hk] at hk'; cases hk'
    exact ⟨_, rfl, h1, h2⟩
  | _ h' hk' => rw [hd] at h'; cases h'; rw [hk] at hk'; cases hk'
theorem WT.bool_inv (h : WT E t ts) (hd : E.ty t = some d) (hk : d.kd = .bool) : ∃ b, ts = [.bool b] := by
  cases h with
  | bool h' hk' => exact ⟨_, rfl⟩
  | _ h' hk' => rw [hd] at h'; cases h'; rw [hk] at hk'; cases hk'
theorem WT.str_inv (h : WT E t ts) (hd : E.ty t = some d) (hk : d.kd = .str) : ∃ s, ts = [.str s] ∧ s.length ≤ maxLen := by
  cases h with
  | str h' hk' hl => exact ⟨_, rfl, hl⟩
  | _ h' hk' => rw [hd] at h'; cases h'; rw [hk] at hk'; cases hk'
theorem WT.st_inv {fs} (h : WT E t ts) (hd : E.ty t = some d) (hk : d.kd = .st fs) : WTf E fs ts := by
  cases h with
  | st h' hk' hf =>
    rw [hd] at h'; cases h'
    rw [hk] at hk'; cases hk'
    exact hf
  | _ h' hk' => rw [hd] at h'; cases h'; rw [hk] at hk'; cases hk'

theorem WTs.flts {e n : Nat} {cs : List T} {k : FloatKind} (hd : E.ty e = some d) (hk : d.kd = .flt k) (h : WTs E e n cs) : ∃ xs, cs = fls k xs ∧ n = xs.length ∧ ∀ x ∈ xs, GoodF k x := by
  induction n generalizing cs with
  | zero => cases h; exact ⟨[], rfl, rfl, by simp⟩
  | succ n ih =>
    cases h with
    | snoc h hc =>
      obtain ⟨xs, rfl, rfl, hx⟩ := ih h
      obtain ⟨x, rfl, hg⟩ := hc.flt_inv hd hk
      refine ⟨xs ++ [x], by simp [fls], by simp, fun y hy => ?_⟩
      simp only [List.mem_append, List.mem_singleton] at hy
      rcases hy with hy | rfl
      · exact hx y hy
      · exact hg
theorem WTs.ints {e n : Nat} {cs : List T} {k : IntKind} (hd : E.ty e = some d) (hk : d.kd = .int k) (h : WTs E e n cs) : ∃ xs, cs = its k xs ∧ n = xs.length ∧ ∀ x ∈ xs, GoodI k x := by
  induction n generalizing cs with
  | zero => cases h; exact ⟨[], rfl, rfl, by simp⟩
  | succ n ih =>
    cases h with
    | snoc h hc =>
      obtain ⟨xs, rfl, rfl, hx⟩ := ih h
      obtain ⟨x, rfl, hg⟩ := hc.int_inv hd hk
      refine ⟨xs ++ [x], by simp [its], by simp, fun y hy => ?_⟩
      simp only [List.mem_append, List.mem_singleton] at hy
      rcases hy with hy | rfl
      · exact hx y hy
      · exact hg
end

theorem LawArgs.cons_inv {E : Env} {t : Nat} {tys : List Nat} {as : List Arg} {d : TD} (hd : E.ty t = some d) (h : LawArgs E (t :: tys) as) : ∃ ts r, as = ⟨.val, ⟨d.agg, shares d.own, ts⟩⟩ :: r ∧ WT E t ts ∧ LawArgs E tys r := by
  cases h with
  | cons hd' hw r =>
    rw [hd] at hd'; cases hd'
    exact ⟨_, _, rfl, hw, r⟩
theorem LawArgs.nil_inv {E : Env} {as : List Arg} (h : LawArgs E [] as) : as = [] := by cases h; rfl

/-! ### Lists -/
theorem fls_length (k xs) : (fls k xs).length = xs.length := by simp [fls]
theorem its_length (k xs) : (its k xs).length = xs.length := by simp [its]
theorem okAt_fls {k : FloatKind} {xs : List Nat} {i : Nat} (h : i < xs.length) : okAt [.flt k] (fls k xs) i = true := by
  simp [okAt, fls, h, isCK]
theorem okAt_its {k : IntKind} {xs : List Int} {i : Nat} (h : i < xs.length) : okAt [.int k] (its k xs) i = true := by
  simp [okAt, its, h, isCK]
theorem fAt_fls {k : FloatKind} {xs : List Nat} {i : Nat} : fAt (fls k xs) i = xs.getD i 0 := by
  simp only [fAt, fls, List.getElem?_map, List.getD]
  cases xs[i]? <;> rfl
theorem iAt_its {k : IntKind} {xs : List Int} {i : Nat} : iAt (its k xs) i = xs.getD i 0 := by
  simp only [iAt, its, List.getElem?_map, List.getD]
  cases xs[i]? <;> rfl
theorem setN_one (cs : List T) (i : Nat) (t : T) : setN cs i [t] = cs.set i t := rfl
theorem reps_one (n : Nat) (t : T) : reps n [t] = List.replicate n t := by
  induction n with
  | zero => rfl
  | succ n ih => rw [reps_succ, ih]; rfl
theorem reps_fls (k : FloatKind) (n : Nat) : reps n [.flt k 0] = fls k (List.replicate n 0) := by
  rw [reps_one]; simp [fls]
theorem reps_its (k : IntKind) (n : Nat) : reps n [.int k 0] = its k (List.replicate n 0) := by
  rw [reps_one]; simp [its]
theorem set_fls (k : FloatKind) (xs : List Nat) (i y : Nat) : (fls k xs).set i (.flt k y) = fls k (xs.set i y) := by simp [fls, List.map_set]
theorem set_its (k : IntKind) (xs : List Int) (i : Nat) (y : Int) : (its k xs).set i (.int k y) = its k (xs.set i y) := by simp [its, List.map_set]
theorem fls_inj {k : FloatKind} {xs ys : List Nat} (h : fls k xs = fls k ys) : xs = ys := by
  unfold fls at h
  exact (List.map_inj_right (fun a b h => by cases h; rfl)).1 h

theorem take_set_drop {α : Type} {xs ys : List α} {i : Nat} (h : i < xs.length) (hl : ys.length = xs.length) : (xs.take i ++ ys.drop i).set i xs[i] = xs.take (i + 1) ++ ys.drop (i + 1) := by
  apply List.ext_getElem?
  intro j
  by_cases hj : j = i
  · subst hj
    rw [List.getElem?_set_self (by simp; omega), List.getElem?_append_left (by simp; omega)]
    simp [h]
  · rw [List.getElem?_set_ne (Ne.symm hj)]
    rcases Nat.lt_or_ge j i with h1 | h1
    · rw [List.getElem?_append_left (by simp; omega), List.getElem?_append_left (by simp; omega)]
      simp [h1, Nat.lt_succ_of_lt h1]
    · rw [List.getElem?_append_right (by simp; omega), List.getElem?_append_right (by simp; omega)]
      simp only [List.length_take, List.getElem?_drop]
      congr 1
      omega

theorem wrap64 {x : Int} (h1 : -9223372036854775808 ≤ x) (h2 : x ≤ 9223372036854775807) : IntKind.i64.wrap x = x := by
  rw [IntKind.wrap_i64]; omega
theorem wrap_succ {i : Nat} (h : i < 9223372036854775807) : IntKind.i64.wrap ((i : Int) + 1) = ((i + 1 : Nat) : Int) := by
  rw [wrap64] <;> omega
theorem lt_dec {i n : Nat} (h : i < n) : decide ((i : Int) < (n : Int)) = true := by simp; omega
theorem nlt_dec {i n : Nat} (h : n ≤ i) : decide ((i : Int) < (n : Int)) = false := by simp; omega
theorem in_dec {i n : Nat} (h : i < n) : decide ((0 : Int) ≤ (i : Int) ∧ (i : Int) < (n : Int)) = true := by simp; omega

/-! ### Numbers with themselves -/
theorem fne_feq (k : FloatKind) (x y : Nat) : fne k x y = !feq k x y := rfl

/-! ### A single number is a double number -/
theorem single_finite {x : Nat} {s : Bool} {m : Nat} {e : Int} (h : Ieee.single.read x = .number s m e) : m < 16777216 ∧ -149 ≤ e ∧ e ≤ 104 := by
  have hb : Ieee.single.binade = 8388608 := rfl
  have hp : Ieee.single.leastPlace = -149 := by decide
  unfold Ieee.Format.read at h
  by_cases c1 : x % Ieee.single.signWeight < Ieee.single.binade
  · simp only [if_pos c1] at h
    cases h
    rw [hb] at c1
    refine ⟨by omega, ?_, ?_⟩ <;> rw [hp] <;> omega
  · by_cases c2 : x % Ieee.single.signWeight < Ieee.single.infRung
    · simp only [if_neg c1, if_pos c2] at h
      cases h
      rw [hb, hp]
      rw [infRung_single] at c2
      rw [weight_single] at c2 ⊢
      refine ⟨by omega, by omega, ?_⟩
      omega
    · by_cases c3 : x % Ieee.single.signWeight = Ieee.single.infRung
      · simp only [if_neg c1, if_neg c2, if_pos c3] at h; cases h
      · simp only [if_neg c1, if_neg c2, if_neg c3] at h; cases h

theorem read_lt {f : Ieee.Format} {s : Bool} {r : Nat} (h : r < f.infRung) (hw : f.infRung < f.signWeight) : ((f.read (f.word s r)).isInfinity) = false := by
  have hr : f.word s r % f.signWeight = r := by
    unfold Ieee.Format.word
    split
    · rw [Nat.add_mod_left, Nat.mod_eq_of_lt (by omega)]
    · rw [Nat.mod_eq_of_lt (by omega)]
  simp only [Ieee.Format.read, hr]
  split
  · rfl
  · simp only [Ieee.Datum.isInfinity]

theorem widen_num {s : Bool} {m : Nat} {e : Int} (hm : m < 16777216) (h1 : -149 ≤ e) (h2 : e ≤ 104) : (Ieee.double.read (Ieee.double.nearest s m e)).isInfinity = false := by
  have hb : Ieee.double.binade = 4503599627370496 := rfl
  have hp : Ieee.double.leastPlace = -1074 := by decide
  have hf : (Ieee.double.fractionBits : Int) = 52 := rfl
  unfold Ieee.Format.nearest
  split
  · exact read_lt (by rw [infRung_double]; decide) (by rw [infRung_double, weight_double]; decide)
  · rename_i hz
    have hl : m.log2 ≤ 23 := by
      have : m.log2 < 24 := (Nat.log2_lt hz).2 (by omega)
      omega
    have hmax : max (e + (m.log2 : Int) - 52) (-1074) = e + (m.log2 : Int) - 52 := by omega
    simp only [hf, hp, hmax]
    have e1 : (e - (e + (m.log2 : Int) - 52)).toNat = 52 - m.log2 := by omega
    have e2 : (e + (m.log2 : Int) - 52 - e).toNat = 0 := by omega
    rw [e1, e2]
    have hcut : ∀ n, Ieee.Toward.cut .even s n 0 = n := by
      intro n
      simp only [Ieee.Toward.cut, Nat.zero_le, Nat.min_eq_left, Nat.shiftLeft_zero, Nat.div_one, Nat.mod_one]
      rfl
    rw [hcut]
    have hk : m <<< (52 - m.log2) < 9007199254740992 := by
      rw [Nat.shiftLeft_eq]
      have h3 : m < 2 ^ (m.log2 + 1) := Nat.lt_log2_self
      have h4 : (2 : Nat) ^ (m.log2 + 1) * 2 ^ (52 - m.log2) = 2 ^ 53 := by
        rw [← Nat.pow_add]; congr 1; omega
      calc m * 2 ^ (52 - m.log2) < 2 ^ (m.log2 + 1) * 2 ^ (52 - m.log2) := Nat.mul_lt_mul_of_pos_right h3 (Nat.pow_pos (by decide))
        _ = 9007199254740992 := by rw [h4]
    have ht : (e + (m.log2 : Int) - 52 - -1074).toNat ≤ 1149 := by omega
    have hlt : (e + (m.log2 : Int) - 52 - -1074).toNat * Ieee.double.binade + m <<< (52 - m.log2) < Ieee.double.infRung := by
      rw [hb, infRung_double]
      omega
    rw [Nat.min_eq_left (Nat.le_of_lt hlt)]
    exact read_lt hlt (by rw [infRung_double, weight_double]; decide)

/-- a single number, widened -/
def wide (x : Nat) : Nat := match fltToFlt .f32 x .f64 with
  | some y => y
  | none => 0
theorem fltToFlt_wide (x : Nat) : fltToFlt .f32 x .f64 = some (wide x) := by
  unfold wide
  have : ∃ y, fltToFlt .f32 x .f64 = some y := by
    unfold fltToFlt
    rw [if_neg (by decide)]
    cases h : FloatKind.f32.decode x with
    | nan s t => exact ⟨_, rfl⟩
    | infinity s => exact ⟨_, rfl⟩
    | number s m e =>
      obtain ⟨h1, h2, h3⟩ := single_finite (x := x) h
      have := widen_num (s := s) h1 h2 h3
      refine ⟨FloatKind.f64.encode (.number s m e), ?_⟩
      show (if (FloatKind.f64.decode (FloatKind.f64.encode (.number s m e))).isInfinity = true then none else some _) = some _
      have h4 : (FloatKind.f64.decode (FloatKind.f64.encode (.number s m e))).isInfinity = false := this
      rw [h4]; rfl
  obtain ⟨y, hy⟩ := this
  rw [hy]
end Go.Desk
end
section
/- Plain laws: numbers made of integers, marks. -/
namespace Go.Desk
open Go

theorem feq_self {k : FloatKind} {x : Nat} (h : isNaN k x = false) : feq k x x = true := by
  unfold feq Ieee.Format.order
  unfold isNaN FloatKind.decode at h
  cases hr : k.format.read x with
  | nan s t => rw [hr] at h; cases h
  | infinity s => simp [Ieee.Datum.order]
  | number s m e => simp [Ieee.Datum.order]
theorem isNaN_nearest (k : FloatKind) (n : Int) : isNaN k (k.nearest n) = false := by
  unfold FloatKind.nearest
  exact write_num (fun _ _ h => by cases h)
theorem nearest_feq (k : FloatKind) (n : Int) : feq k (k.nearest n) (k.nearest n) = true := feq_self (isNaN_nearest k n)
theorem nearest_fne (k : FloatKind) (n : Int) : fne k (k.nearest n) (k.nearest n) = false := by rw [fne_feq, nearest_feq]; rfl

/-- numbers counted from s on -/
def marksF (k : FloatKind) (s : Int) (n : Nat) : List Nat := (List.range n).map fun j : Nat => k.nearest (s + (j : Int))
def marksI (s : Int) (n : Nat) : List Int := (List.range n).map fun j : Nat => s + (j : Int)
theorem marksF_length (k s n) : (marksF k s n).length = n := by simp [marksF]
theorem marksI_length (s n) : (marksI s n).length = n := by simp [marksI]
theorem marksF_get {k : FloatKind} {s : Int} {n i : Nat} (h : i < n) : (marksF k s n).getD i 0 = k.nearest (s + (i : Int)) := by simp [marksF, List.getD, h]
theorem marksI_get {s : Int} {n i : Nat} (h : i < n) : (marksI s n).getD i 0 = s + (i : Int) := by simp [marksI, List.getD, h]
theorem marksF_at {k : FloatKind} {s : Int} {n i : Nat} (h : i < (marksF k s n).length) : (marksF k s n)[i] = k.nearest (s + (i : Int)) := by simp [marksF]
theorem marksI_at {s : Int} {n i : Nat} (h : i < (marksI s n).length) : (marksI s n)[i] = s + (i : Int) := by simp [marksI]
theorem le_ble {a b : Nat} (h : a ≤ b) : Nat.ble a b = true := by rw [Nat.ble_eq]; exact h
end Go.Desk
end
