/- A reading of the loaded code over plain data, and its soundness (part 4 of 6). Own work of this workplace, put together by program. -/
import Derived.Test.YtdobhipbgpiceaaDeskC
set_option linter.all false
section
/- The sign of another number: out of the reading of its own code. -/
namespace Go.Desk
open Go

theorem nat_and_top (b : Nat) (hb : b < 18446744073709551616) : b &&& 2 ^ 63 = b / 9223372036854775808 * 9223372036854775808 := by
  apply Nat.eq_of_testBit_eq
  intro i
  rw [Nat.testBit_and, Nat.testBit_two_pow]
  rcases Nat.lt_or_ge b 9223372036854775808 with h | h
  · rw [Nat.div_eq_of_lt h, Nat.zero_mul, Nat.zero_testBit]
    by_cases e : 63 = i
    · subst e; rw [Nat.testBit_lt_two_pow (by simpa using h)]; rfl
    · simp [e]
  · have : b / 9223372036854775808 = 1 := by omega
    rw [this, Nat.one_mul, show (9223372036854775808 : Nat) = 2 ^ 63 from rfl, Nat.testBit_two_pow]
    by_cases e : 63 = i
    · subst e
      have : b.testBit 63 = true := by
        rw [Nat.testBit_eq_decide_div_mod_eq]
        have : b / 2 ^ 63 % 2 = 1 := by show b / 9223372036854775808 % 2 = 1; omega
        simp [this]
      simp [this]
    · simp [e]
theorem and_top (b : Nat) (hb : b < 18446744073709551616) : intBits .and .u64 (b : Int) 9223372036854775808 = ((b / 9223372036854775808 * 9223372036854775808 : Nat) : Int) := by
  have h : (BitVec.ofInt 64 (b : Int) &&& (BitVec.ofInt 64 9223372036854775808)).toNat = b / 9223372036854775808 * 9223372036854775808 := by
    have e1 : BitVec.ofInt 64 (b : Int) = BitVec.ofNat 64 b := by
      apply BitVec.eq_of_toNat_eq
      simp
    have e2 : (BitVec.ofInt 64 9223372036854775808) = BitVec.ofNat 64 (2 ^ 63) := by decide
    rw [e1, e2, BitVec.toNat_and, BitVec.toNat_ofNat, BitVec.toNat_ofNat, Nat.mod_eq_of_lt (show 2 ^ 63 < 2 ^ 64 by decide), Nat.mod_eq_of_lt (by simpa using hb), nat_and_top b hb]
  show IntKind.u64.wrap (((BitVec.ofInt 64 (b : Int) &&& (BitVec.ofInt 64 9223372036854775808)).toNat : Nat) : Int) = _
  rw [h]
  rw [show ∀ n : Nat, IntKind.u64.wrap (n : Int) = (n : Int) % 18446744073709551616 by intro n; simp [IntKind.wrap, IntKind.bits, IntKind.signed]]
  omega
theorem or_top (a s : Nat) (ha : a < 9223372036854775808) (hs : s < 2) : intBits .or .u64 (a : Int) ((s * 9223372036854775808 : Nat) : Int) = ((a + s * 9223372036854775808 : Nat) : Int) := by
  have h : (BitVec.ofInt 64 (a : Int) ||| (BitVec.ofInt 64 ((s * 9223372036854775808 : Nat) : Int))).toNat = a + s * 9223372036854775808 := by
    have e1 : ∀ b : Nat, BitVec.ofInt 64 (b : Int) = BitVec.ofNat 64 b := by
      intro b
      apply BitVec.eq_of_toNat_eq
      simp
    rw [e1, e1, BitVec.toNat_or, BitVec.toNat_ofNat, BitVec.toNat_ofNat, Nat.mod_eq_of_lt (by omega), Nat.mod_eq_of_lt (by omega), Nat.or_comm, Nat.mul_comm s, Nat.add_comm a]
    exact (Nat.two_pow_add_eq_or_of_lt (i := 63) (by simpa using ha) s).symm
  show IntKind.u64.wrap (((BitVec.ofInt 64 (a : Int) ||| (BitVec.ofInt 64 ((s * 9223372036854775808 : Nat) : Int))).toNat : Nat) : Int) = _
  rw [h]
  rw [show ∀ n : Nat, IntKind.u64.wrap (n : Int) = (n : Int) % 18446744073709551616 by intro n; simp [IntKind.wrap, IntKind.bits, IntKind.signed]]
  omega

theorem copysign_plain (n : Nat) {x s : Nat} (hx : isNaN .f64 x = false) (hs : isNaN .f64 s = false) (hx' : x < 18446744073709551616) (hs' : s < 18446744073709551616) :
    (bd (xF64bits (n + 1) x) fun r2 => bd (xF64bits (n + 1) s) fun r4 => bd (xF64frombits (n + 1) (intBits BinOp.or IntKind.u64 (intBits BinOp.andNot IntKind.u64 r2 (9223372036854775808 : Int)) (intBits BinOp.and IntKind.u64 r4 (9223372036854775808 : Int)))) fun r6 => some r6)
      = some (x % 9223372036854775808 + s / 9223372036854775808 * 9223372036854775808) := by
  have e1 : xF64bits (n + 1) x = some (x : Int) := by simp [xF64bits, hx]
  have e2 : xF64bits (n + 1) s = some (s : Int) := by simp [xF64bits, hs]
  rw [e1, e2]
  show bd (xF64frombits (n + 1) (intBits BinOp.or IntKind.u64 (intBits BinOp.andNot IntKind.u64 (x : Int) (9223372036854775808 : Int)) (intBits BinOp.and IntKind.u64 (s : Int) (9223372036854775808 : Int)))) (fun r6 => some r6) = _
  rw [andNot_top, and_top _ hs', or_top _ _ (Nat.mod_lt _ (by decide)) (by omega)]
  have h2 : isNaN .f64 (x % 9223372036854775808 + s / 9223372036854775808 * 9223372036854775808) = false := by
    rw [isNaN_f64] at hx ⊢
    rw [Nat.add_mul_mod_self_right, Nat.mod_mod]; exact hx
  have e3 : xF64frombits (n + 1) ((x % 9223372036854775808 + s / 9223372036854775808 * 9223372036854775808 : Nat) : Int) = some (x % 9223372036854775808 + s / 9223372036854775808 * 9223372036854775808) := by
    show (if 0 ≤ ((x % 9223372036854775808 + s / 9223372036854775808 * 9223372036854775808 : Nat) : Int) then some (canon .f64 ((x % 9223372036854775808 + s / 9223372036854775808 * 9223372036854775808 : Nat) : Int).toNat) else none) = _
    rw [if_pos (by omega), Int.toNat_natCast, canon_num h2]
  rw [e3]; rfl

/-- the sign of another number, out of the reading of its own code -/
theorem ext_pCopysign_of {P : Program} {E : Env} {f : Nat} (hm : P.follows .mixedOrders = true) (hE : TysOk P E) (hT : ∀ f fd, E.fn f = some fd → FnTab P E f fd)
    (n1 : ∀ x s, isNaN .f64 x = false → isNaN .f64 s = false → x < 18446744073709551616 → s < 18446744073709551616 → ∃ N, evalFn E N f [⟨.val, ⟨false, [.leaf], [.flt .f64 x]⟩⟩, ⟨.val, ⟨false, [.leaf], [.flt .f64 s]⟩⟩] = some ⟨[⟨false, [.leaf], [.flt .f64 (x % 9223372036854775808 + s / 9223372036854775808 * 9223372036854775808)]⟩], [none, none]⟩) : ExtOk P f pCopysign := by
  intro as r h w Fz xs mfp hA hn hF
  have hh := h
  simp only [extR] at h
  split at h
  · rename_i hv
    generalize ht : (as.flatMap fun a => a.v.cs) = ts at h
    split at h
    · simp at h
    · rename_i rs hrs
      unfold pCopysign at hrs
      split at hrs
      · rename_i x s
        split at hrs
        · simp at hrs
        rename_i hs
        split at hrs
        · simp at hrs
        rename_i hx
        split at hrs
        · rename_i hb
          cases hrs
          have has : as = [⟨.val, ⟨false, [.leaf], [.flt .f64 x]⟩⟩, ⟨.val, ⟨false, [.leaf], [.flt .f64 s]⟩⟩] := by
            cases as with
            | nil => simp at ht
            | cons a as =>
              simp only [List.all_cons, Bool.and_eq_true] at hv
              obtain ⟨h1, h2⟩ := hv
              unfold leafA at h1
              split at h1
              · rename_i t
                simp only [List.flatMap_cons, List.cons_append, List.nil_append, List.cons.injEq] at ht
                obtain ⟨rfl, ht⟩ := ht
                cases as with
                | nil => simp at ht
                | cons b bs =>
                  simp only [List.all_cons, Bool.and_eq_true] at h2
                  obtain ⟨h3, h4⟩ := h2
                  unfold leafA at h3
                  split at h3
                  · simp only [List.flatMap_cons, List.cons_append, List.nil_append, List.cons.injEq] at ht
                    obtain ⟨rfl, ht⟩ := ht
                    cases bs with
                    | nil => rfl
                    | cons c cs =>
                      simp only [List.all_cons, Bool.and_eq_true] at h4
                      obtain ⟨h5, -⟩ := h4
                      unfold leafA at h5
                      split at h5
                      · simp at ht
                      · simp at h5
                  · simp at h3
              · simp at h1
          subst has
          obtain ⟨N, e⟩ := n1 x s (by simpa using hx) (by simpa using hs) hb.1 hb.2
          have := evalFn_ok hm hE hT N f _ _ e w Fz _ mfp hA hn hF
          rw [← Option.some.inj h]
          simpa using this
        · simp at hrs
      · simp at hrs
  · simp at h
end Go.Desk
end
