/- FnChainBlocks holds: for every input the law returns true, and its arguments read as before. -/
import Derived.Test.YtdobhipbgpiceaaChecked
import Derived.Test.YtdobhipbgpiceaaDeskF
import Derived.KernelRfl
import Derived.Test.YtdobhipbgpiceaaRows
import Derived.WalkKit
import Derived.ProofKit
import Derived.OpenShut
import Derived.ShutString
import Derived.ChangeOld
import Derived.Below
import Derived.SizedLaws
import Derived.Test.YtdobhipbgpiceaaM4a
set_option linter.all false
section
/- FnChainBlocks, in plain Lean. -/
namespace Go.Proofs.Ytdobhipbgpiceaa.D
open Go Go.Desk
set_option linter.unusedVariables false
theorem s_from (n l : Nat) (c : List T) : f64_s_l00From (n + 1) l c = some (l, c, 0, 0) := by rw [f64_s_l00From]
theorem s_next (n : Nat) {bs : List Int} (hb : Bytes bs) {a : Int} (h0 : 0 ≤ a) (h1 : a ≤ 1125899906842624) (sd : Int) :
    ∃ r sd', (0 ≤ r ∧ r ≤ 255) ∧ f134_s_l00Srcnext (n + 1) bs.length (its .u8 bs) a sd = some (r, bs.length, its .u8 bs, a + 1, sd') := by
  rw [f134_s_l00Srcnext]
  rw [show IntKind.i64.wrap (a + 1) = a + 1 by rw [wrap64] <;> omega]
  cases h : decide (a < (bs.length : Int))
  · simp only [br_f]
    cases decide (a + 1 ≤ (bs.length : Int))
    · exact ⟨_, _, and255 _, rfl⟩
    · exact ⟨0, _, by omega, rfl⟩
  · simp only [decide_eq_true_eq] at h
    obtain ⟨i, rfl⟩ := Int.eq_ofNat_of_zero_le h0
    have hi : i < bs.length := by omega
    have hr := hb (bs[i]) (List.getElem_mem _)
    simp only [br_t, in_dec hi, Int.toNat_natCast, okAt_its hi, Bool.and_self, gd_t, iAt_its]
    rw [show bs.getD i 0 = bs[i] by simp [List.getD, hi], show IntKind.i64.wrap bs[i] = bs[i] by rw [wrap64] <;> omega]
    cases decide ((i : Int) + 1 ≤ (bs.length : Int))
    · exact ⟨_, _, and255 _, rfl⟩
    · exact ⟨_, _, hr, rfl⟩
theorem s_pick (n : Nat) {bs : List Int} (hb : Bytes bs) {a : Int} (h0 : 0 ≤ a) (h1 : a ≤ 1125899906842622) (sd k : Int) :
    ∃ r a' sd', (0 ≤ r ∧ (1 < k → r < k) ∧ (k ≤ 1 → r = 0)) ∧ (a ≤ a' ∧ a' ≤ a + 2) ∧ f74_s_l00Srcpick (n + 2) bs.length (its .u8 bs) a sd k = some (r, bs.length, its .u8 bs, a', sd') := by
  rw [f74_s_l00Srcpick]
  by_cases hk : k ≤ 1
  · rw [decide_eq_true hk]; exact ⟨0, a, sd, by omega, by omega, rfl⟩
  rw [decide_eq_false hk]
  obtain ⟨r, s1, hr, e1⟩ := s_next n hb h0 (by omega) sd
  simp only [br_f, e1, bd_s]
  have hk0 : (!decide (k = 0)) = true := by simp; omega
  by_cases hk2 : k > 200
  · rw [decide_eq_true hk2]
    obtain ⟨r', s2, hr', e2⟩ := s_next n hb (a := a + 1) (by omega) (by omega) s1
    simp only [br_t, e2, bd_s, hk0, gd_t]
    rw [show IntKind.i64.wrap (r * 256) = r * 256 by rw [wrap64] <;> omega, show IntKind.i64.wrap (r * 256 + r') = r * 256 + r' by rw [wrap64] <;> omega]
    refine ⟨_, _, _, ?_, ?_, rfl⟩
    · rw [Int.tmod_eq_emod_of_nonneg (by omega)]
      have := Int.emod_nonneg (r * 256 + r') (show k ≠ 0 by omega)
      have := Int.emod_lt_of_pos (r * 256 + r') (show 0 < k by omega)
      omega
    · omega
  · rw [decide_eq_false hk2]
    simp only [br_f, hk0, gd_t]
    refine ⟨_, _, _, ?_, ?_, rfl⟩
    · rw [Int.tmod_eq_emod_of_nonneg (by omega)]
      have := Int.emod_nonneg r (show k ≠ 0 by omega)
      have := Int.emod_lt_of_pos r (show 0 < k by omega)
      omega
    · omega
theorem s_one (n : Nat) {bs : List Int} (hb : Bytes bs) {a : Int} (h0 : 0 ≤ a) (h1 : a ≤ 1125899906842622) (sd k : Int) :
    ∃ r a' sd', (a ≤ a' ∧ a' ≤ a + 2) ∧ f130_s_l00Srcone (n + 3) bs.length (its .u8 bs) a sd k = some (r, bs.length, its .u8 bs, a', sd') := by
  obtain ⟨r, a', s', -, ha, e⟩ := s_pick n hb h0 h1 sd k
  rw [f130_s_l00Srcone, e]
  exact ⟨_, _, _, ha, rfl⟩
theorem s_plain (n : Nat) {bs : List Int} (hb : Bytes bs) {a : Int} (h0 : 0 ≤ a) (h1 : a ≤ 1125899906842620) (sd : Int) :
    ∃ x a' sd', Plain x ∧ (a ≤ a' ∧ a' ≤ a + 4) ∧ f65_s_l01DrawPlain (n + 4) bs.length (its .u8 bs) a sd = some (x, bs.length, its .u8 bs, a', sd') := by
  obtain ⟨r, a1, s1, hr, ha, e⟩ := s_pick (n + 1) hb h0 (by omega) sd 129
  obtain ⟨b, a2, s2, ha2, e2⟩ := s_one n hb (a := a1) (by omega) (by omega) s1 4
  rw [f65_s_l01DrawPlain, e]
  simp only [bd_s, e2]
  rw [show IntKind.i64.wrap (r - 64) = r - 64 by rw [wrap64] <;> omega]
  cases b
  · exact ⟨_, a2, s2, ⟨r - 64, by omega, .inr rfl⟩, by omega, rfl⟩
  · exact ⟨_, a2, s2, ⟨r - 64, by omega, .inl rfl⟩, by omega, rfl⟩
theorem s_among (n : Nat) {bs : List Int} (hb : Bytes bs) {a : Int} (h0 : 0 ≤ a) (h1 : a ≤ 1125899906842622) (sd : Int) (L : List Int) (hL : 0 < L.length) :
    ∃ r a' sd', r ∈ L ∧ (a ≤ a' ∧ a' ≤ a + 2) ∧ f139_s_l00Srcamong (n + 3) bs.length (its .u8 bs) a sd L.length (its .i64 L) = some (r, bs.length, its .u8 bs, a', sd', L.length, its .i64 L) := by
  obtain ⟨r, a1, s1, hr, ha, e⟩ := s_pick n hb h0 h1 sd (L.length : Int)
  rw [f139_s_l00Srcamong, e]
  obtain ⟨i, rfl⟩ := Int.eq_ofNat_of_zero_le hr.1
  have hi : i < L.length := by
    by_cases h : (L.length : Int) ≤ 1
    · have := hr.2.2 h; omega
    · have := hr.2.1 (by omega); omega
  simp only [bd_s, in_dec hi, Int.toNat_natCast, okAt_its hi, Bool.and_self, gd_t, iAt_its]
  refine ⟨_, _, _, ?_, ha, rfl⟩
  rw [show L.getD i 0 = L[i] by simp [List.getD, hi]]
  exact List.getElem_mem _
theorem s_from32 (n : Nat) {i : Int} (h0 : 0 ≤ i) (h1 : i < 4294967296) : ∃ x, W32 x ∧ f138_s_l01From (n + 2) i = some x := by
  rw [f138_s_l01From]
  refine ⟨canon .f32 i.toNat, w32_canon (by omega), ?_⟩
  rw [u32_wrap h0 h1]
  show bd (if 0 ≤ i then some (canon .f32 i.toNat) else none) _ = _
  rw [if_pos h0]; rfl
theorem s_float (n : Nat) {bs : List Int} (hb : Bytes bs) {a : Int} (h0 : 0 ≤ a) (h1 : a ≤ 1125899906842600) (sd : Int) :
    ∃ x a' sd', W32 x ∧ (a ≤ a' ∧ a' ≤ a + 16) ∧ f86_s_l01DrawFloat (n + 5) bs.length (its .u8 bs) a sd = some (x, bs.length, its .u8 bs, a', sd') := by
  obtain ⟨b, a1, s1, ha1, e1⟩ := s_one (n + 1) hb h0 (by omega) sd 12
  rw [f86_s_l01DrawFloat, e1]
  simp only [bd_s, br_not]
  cases b
  · obtain ⟨x, a2, s2, hx, ha2, e2⟩ := s_plain n hb (a := a1) (by omega) (by omega) s1
    simp only [br_f, e2, bd_s]
    exact ⟨_, _, _, hx.w32, by omega, rfl⟩
  obtain ⟨q, a2, s2, -, ha2, e2⟩ := s_pick (n + 2) hb (a := a1) (by omega) (by omega) s1 4
  simp only [br_t, e2, bd_s]
  cases q == 0
  case true =>
    obtain ⟨r, a3, s3, hr, ha3, e3⟩ := s_among (n + 1) hb (a := a2) (by omega) (by omega) s2 [0, 2147483648, 2139095040, 4286578688, 2143289344, 1, 2139095039, 8388608, 8388607, 2147483649] (by decide)
    have hr' : 0 ≤ r ∧ r < 4294967296 := by simp only [List.mem_cons, List.not_mem_nil, or_false] at hr; omega
    obtain ⟨x, hx, e4⟩ := s_from32 (n + 2) hr'.1 hr'.2
    rw [br_t]
    refine ⟨x, a3, s3, hx, by omega, ?_⟩
    refine Eq.trans (congrArg (fun o => bd o _) e3) ?_
    simp only [bd_s, e4]
  cases q == 1
  case true =>
    obtain ⟨r, a3, s3, hr, ha3, e3⟩ := s_pick (n + 2) hb (a := a2) (by omega) (by omega) s2 65536
    obtain ⟨r', a4, s4, hr', ha4, e4⟩ := s_pick (n + 2) hb (a := a3) (by omega) (by omega) s3 65536
    obtain ⟨x, hx, e5⟩ := s_from32 (n + 2) (i := r * 65536 + r') (by omega) (by omega)
    simp only [br_f, br_t, e3, e4, bd_s]
    rw [show IntKind.i64.wrap (r * 65536) = r * 65536 by rw [wrap64] <;> omega, show IntKind.i64.wrap (r * 65536 + r') = r * 65536 + r' by rw [wrap64] <;> omega, e5]
    exact ⟨x, _, _, hx, by omega, rfl⟩
  cases q == 2
  case true =>
    obtain ⟨r, a3, s3, hr, ha3, e3⟩ := s_pick (n + 2) hb (a := a2) (by omega) (by omega) s2 65536
    obtain ⟨x, hx, e5⟩ := s_from32 (n + 2) (i := r * 65536) (by omega) (by omega)
    simp only [br_f, br_t, e3, bd_s]
    rw [show IntKind.i64.wrap (r * 65536) = r * 65536 by rw [wrap64] <;> omega, e5]
    exact ⟨x, _, _, hx, by omega, rfl⟩
  obtain ⟨x, a3, s3, hx, ha3, e3⟩ := s_plain n hb (a := a2) (by omega) (by omega) s2
  obtain ⟨r, a4, s4, hr, ha4, e4⟩ := s_among (n + 1) hb (a := a3) (by omega) (by omega) s3 [8388608, 2130706432, 1610612736, 536870912] (by decide)
  have hr' : 0 ≤ r ∧ r < 4294967296 := by simp only [List.mem_cons, List.not_mem_nil, or_false] at hr; omega
  obtain ⟨y, hy, e5⟩ := s_from32 (n + 2) hr'.1 hr'.2
  simp only [br_f, e3, bd_s]
  refine ⟨_, a4, s4, w32_fmul x y, by omega, ?_⟩
  refine Eq.trans (congrArg (fun o => bd o _) e4) ?_
  simp only [bd_s, e5]
theorem s_floats_loop (n : Nat) {bs : List Int} (hb : Bytes bs) (str : Bool) : ∀ (j m : Nat) (a sd : Int) (acc : List Nat), 0 ≤ a → a + 16 * (j : Int) ≤ 1125899906842000 → acc.length + j ≤ 2147483647 → j < m → (∀ x ∈ acc, W32 x) →
    ∃ ys a' sd', ys.length = acc.length + j ∧ (∀ x ∈ ys, W32 x) ∧ (a ≤ a' ∧ a' ≤ a + 16 * (j : Int)) ∧
      f73_s_l01DrawFloats.l0 (n + 5) m bs.length (its .u8 bs) a sd (j : Int) acc.length (fls .f32 acc) str = some (bs.length, its .u8 bs, a', sd', ys.length, fls .f32 ys) := by
  intro j
  induction j with
  | zero =>
    intro m a sd acc h0 h1 hl hm hw
    obtain ⟨m, rfl⟩ : ∃ k, m = k + 1 := ⟨m - 1, by omega⟩
    rw [f73_s_l01DrawFloats.l0]
    exact ⟨acc, a, sd, by omega, hw, by omega, rfl⟩
  | succ j ih =>
    intro m a sd acc h0 h1 hl hm hw
    obtain ⟨m, rfl⟩ : ∃ k, m = k + 1 := ⟨m - 1, by omega⟩
    rw [f73_s_l01DrawFloats.l0, decide_eq_true (show (((j + 1 : Nat) : Int) > 0) by omega), show IntKind.i64.wrap (((j + 1 : Nat) : Int) - 1) = (j : Int) by rw [wrap64] <;> omega]
    have key : ∀ x a1 s1, W32 x → a ≤ a1 → a1 ≤ a + 16 → ∃ ys a' sd', ys.length = acc.length + (j + 1) ∧ (∀ x ∈ ys, W32 x) ∧ (a ≤ a' ∧ a' ≤ a + 16 * ((j + 1 : Nat) : Int)) ∧
        f73_s_l01DrawFloats.l0 (n + 5) m bs.length (its .u8 bs) a1 s1 (j : Int) (acc ++ [x]).length (fls .f32 (acc ++ [x])) str = some (bs.length, its .u8 bs, a', sd', ys.length, fls .f32 ys) := by
      intro x a1 s1 hx h2 h3
      obtain ⟨ys, a', sd', hy, hyw, ha, e⟩ := ih m a1 s1 (acc ++ [x]) (by omega) (by omega) (by simp; omega) (by omega) (by
        intro y hy; simp only [List.mem_append, List.mem_singleton] at hy; rcases hy with hy | rfl
        · exact hw y hy
        · exact hx)
      exact ⟨ys, a', sd', by simp at hy; omega, hyw, by omega, e⟩
    simp only [br_t]
    cases str
    · obtain ⟨x, a1, s1, hx, ha, e⟩ := s_plain (n + 1) hb h0 (by omega) sd
      simp only [br_f, e, bd_s, push_ok (show acc.length < 2147483648 by omega), gd_t, push_fls]
      rw [show acc.length + 1 = (acc ++ [x]).length by simp]
      exact key x a1 s1 hx.w32 (by omega) (by omega)
    · obtain ⟨x, a1, s1, hx, ha, e⟩ := s_float n hb h0 (by omega) sd
      simp only [br_t, e, bd_s, push_ok (show acc.length < 2147483648 by omega), gd_t, push_fls]
      rw [show acc.length + 1 = (acc ++ [x]).length by simp]
      exact key x a1 s1 hx (by omega) (by omega)
theorem s_floats (n : Nat) {bs : List Int} (hb : Bytes bs) {a : Int} (h0 : 0 ≤ a) (j : Nat) (h1 : a + 16 * (j : Int) ≤ 1125899906841000) (hj : j ≤ 2147483647) (hn : j < n) (sd : Int) :
    ∃ ys a' sd', ys.length = j ∧ (∀ x ∈ ys, W32 x) ∧ (a ≤ a' ∧ a' ≤ a + 2 + 16 * (j : Int)) ∧ f73_s_l01DrawFloats (n + 6) bs.length (its .u8 bs) a sd (j : Int) = some (ys.length, fls .f32 ys, bs.length, its .u8 bs, a', sd') := by
  obtain ⟨b, a1, s1, ha1, e1⟩ := s_one (n + 2) hb h0 (by omega) sd 4
  obtain ⟨ys, a2, s2, hy, hw, ha2, e2⟩ := s_floats_loop n hb b j (n + 5) a1 s1 [] (by omega) (by omega) (by simp; omega) (by omega) (by simp)
  rw [f73_s_l01DrawFloats, e1]
  refine ⟨ys, a2, s2, by simpa using hy, hw, by omega, ?_⟩
  have e2 : f73_s_l01DrawFloats.l0 (n + 5) (n + 5) bs.length (its .u8 bs) a1 s1 (j : Int) 0 (reps 0 [(T.flt FloatKind.f32 0)]) b = some (bs.length, its .u8 bs, a2, s2, ys.length, fls .f32 ys) := e2
  simp only [bd_s, e2]
theorem s_r8samples (n : Nat) {bs : List Int} (hb : Bytes bs) (k : Nat) (hk : k ≤ 1000) (hn : k < n) : ∃ xs, xs.length ≤ k ∧ (∀ x ∈ xs, W32 x) ∧ f21_s_R8Samples (n + 7) bs.length (its .u8 bs) (k : Int) = some (xs.length, fls .f32 xs) := by
  obtain ⟨r, a1, s1, hr, ha1, e1⟩ := s_pick (n + 4) hb (a := 0) (by omega) (by omega) 0 ((k : Int) + 1)
  obtain ⟨j, rfl⟩ := Int.eq_ofNat_of_zero_le hr.1
  have hj : j ≤ k := by omega
  obtain ⟨ys, a2, s2, hy, hw, ha2, e2⟩ := s_floats n hb (a := a1) (by omega) j (by omega) (by omega) (by omega) s1
  rw [f21_s_R8Samples, s_from, show IntKind.i64.wrap ((k : Int) + 1) = (k : Int) + 1 by rw [wrap64] <;> omega]
  simp only [bd_s, e1, e2]
  exact ⟨ys, by omega, hw, rfl⟩

theorem l_long (n : Nat) (bs cs : List Int) : f12_l_r8Long (n + 1) bs.length (its .u8 bs) cs.length (its .u8 cs) = some (decide (48 < bs.length ∨ 48 < cs.length)) := by
  rw [f12_l_r8Long]
  by_cases h : 48 < bs.length
  · rw [decide_eq_true (show (bs.length : Int) > 48 by omega), decide_eq_true (Or.inl h)]; rfl
  · rw [decide_eq_false (show ¬ (bs.length : Int) > 48 by omega), br_f]
    congr 1
    simp [h]; omega
theorem l_at (n : Nat) {bs : List Int} (hb : Bytes bs) {i k : Int} (hi : 0 ≤ i) (hk : 1 ≤ k) : ∃ r, (0 ≤ r ∧ r < k) ∧ f14_l_r8At (n + 1) bs.length (its .u8 bs) i k = some r := by
  rw [f14_l_r8At]
  by_cases h : k ≤ 1
  · rw [decide_eq_true h]; exact ⟨0, by omega, rfl⟩
  rw [decide_eq_false h]
  by_cases h2 : i ≥ (bs.length : Int)
  · rw [decide_eq_true h2]; exact ⟨0, by omega, rfl⟩
  rw [decide_eq_false h2]
  obtain ⟨i, rfl⟩ := Int.eq_ofNat_of_zero_le hi
  have hi : i < bs.length := by omega
  have hr := hb (bs[i]) (List.getElem_mem _)
  have hk0 : (!decide (k = 0)) = true := by simp; omega
  simp only [br_f, in_dec hi, Int.toNat_natCast, okAt_its hi, Bool.and_self, gd_t, iAt_its, hk0]
  rw [show bs.getD i 0 = bs[i] by simp [List.getD, hi], show IntKind.i64.wrap bs[i] = bs[i] by rw [wrap64] <;> omega]
  refine ⟨_, ?_, rfl⟩
  rw [Int.tmod_eq_emod_of_nonneg (by omega)]
  have := Int.emod_nonneg bs[i] (show k ≠ 0 by omega)
  have := Int.emod_lt_of_pos bs[i] (show 0 < k by omega)
  omega
theorem i_same (n : Nat) {x y : Nat} (hx : W32 x) (hy : W32 y) : f18_i_SameNumber (n + 2) x y = some (x == y) := by
  rw [f18_i_SameNumber]
  simp only [fne_nan]
  cases hn : isNaN .f32 x
  · cases hm : isNaN .f32 y
    · simp only [br_f]
      have e1 : ∀ z, isNaN .f32 z = false → xF32bits (n + 1) z = some (z : Int) := fun z hz => by simp [xF32bits, hz]
      simp only [e1 x hn, e1 y hm, bd_s, Option.some.injEq]
      rw [Bool.eq_iff_iff]; simp; constructor <;> omega
    · simp only [br_f, br_t]
      have : x ≠ y := fun e => by rw [e, hm] at hn; cases hn
      simp [this]
  · cases hm : isNaN .f32 y
    · simp only [br_f, br_t]
      have : x ≠ y := fun e => by rw [e, hm] at hn; cases hn
      simp [this]
    · simp only [br_t]
      have : x = y := by rw [← hx.2, ← hy.2, canon_nan hn, canon_nan hm]
      simp [this]
theorem l_same_loop (n : Nat) : ∀ (zs ys p q : List Nat) (m : Nat), ys.length = zs.length → p.length = q.length → (∀ x ∈ zs, W32 x) → (∀ x ∈ ys, W32 x) → p.length + zs.length ≤ 1048576 → zs.length < m →
    f25_l_r8Same.l0 (n + 2) m (p ++ zs).length (fls .f32 (p ++ zs)) (q ++ ys).length (fls .f32 (q ++ ys)) (p.length : Int) = some (if zs = ys then .inr () else .inl false) := by
  intro zs
  induction zs with
  | nil =>
    intro ys p q m hl hpq _ _ _ hm
    obtain ⟨m, rfl⟩ : ∃ k, m = k + 1 := ⟨m - 1, by omega⟩
    obtain rfl : ys = [] := List.length_eq_zero_iff.1 (by simpa using hl)
    rw [f25_l_r8Same.l0, lt_end]
    rfl
  | cons z zs ih =>
    intro ys p q m hl hpq hz hy hb hm
    obtain ⟨m, rfl⟩ : ∃ k, m = k + 1 := ⟨m - 1, by omega⟩
    cases ys with
    | nil => simp at hl
    | cons y ys =>
      rw [f25_l_r8Same.l0, lt_mid, in_mid]
      simp only [hpq, in_mid, toNat_len, okAt_mid]
      rw [← hpq]
      simp only [okAt_mid, fAt_mid, Bool.and_self, gd_t, br_t]
      rw [hpq]
      simp only [fAt_mid]
      rw [i_same n (hz z (by simp)) (hy y (by simp)), ← hpq]
      simp only [bd_s, br_not]
      cases h : z == y
      · simp only [beq_eq_false_iff_ne, ne_eq] at h
        simp [br_f, h]
      · simp only [beq_iff_eq] at h
        subst h
        rw [br_t, wrap_len (z := z) (by simp at hb; omega)]
        have := ih ys (p ++ [z]) (q ++ [z]) m (by simpa using hl) (by simp [hpq]) (fun x hx => hz x (by simp [hx])) (fun x hx => hy x (by simp [hx])) (by simp at hb ⊢; omega) (by simp at hm; omega)
        simpa using this
/-- two lists of numbers -/
theorem l_same (n : Nat) (xs ys : List Nat) (hx : ∀ x ∈ xs, W32 x) (hy : ∀ x ∈ ys, W32 x) (hl : xs.length ≤ 1048576) (hn : xs.length < n) : f25_l_r8Same (n + 3) xs.length (fls .f32 xs) ys.length (fls .f32 ys) = some (decide (xs = ys)) := by
  rw [f25_l_r8Same]
  by_cases h : ys.length = xs.length
  · rw [show (((xs.length : Nat) : Int) != ((ys.length : Nat) : Int)) = false by simp [h], br_f]
    have := l_same_loop n xs ys [] [] (n + 2) h rfl hx hy (by simpa using hl) (by omega)
    simp only [List.nil_append, List.length_nil] at this
    rw [show ((0 : Nat) : Int) = 0 from rfl] at this
    rw [this, bd_s]
    by_cases e : xs = ys
    · rw [if_pos e, decide_eq_true e]; rfl
    · rw [if_neg e, decide_eq_false e]; rfl
  · rw [show (((xs.length : Nat) : Int) != ((ys.length : Nat) : Int)) = true by simp; omega, decide_eq_false (fun e => h (by rw [e]))]
    rfl

theorem i_few (n k : Nat) (l : List T) : f66_i_areSamples (n + 1) k l = some (decide ((k : Int) ≤ 256)) := by rw [f66_i_areSamples]

theorem i_in (n : Nat) (a b c : Int) : f67_i_within (n + 1) a b c = some (decide (b ≤ a ∧ a ≤ c)) := by
  rw [f67_i_within]
  by_cases h : b ≤ a <;> simp [br, h]



theorem i_sub (n : Nat) {x : Nat} (h : x < 4294967296) : f189_i_IsSubnormal (n + 1) x = some (sub32 x) := by
  rw [f189_i_IsSubnormal, ← sub_key h]
  cases fne .f32 x 0 <;> cases flt .f32 x 8388608 <;> rfl
theorem i_flush (n : Nat) {x : Nat} (h : W32 x) : f169_i_FlushNumber (n + 2) x = some (flushM x) := by
  rw [f169_i_FlushNumber, i_sub n h.1, bd_s, br_not]
  have hx := h.1
  cases hs : sub32 x
  · rw [br_f]
    unfold sub32 at hs
    unfold flushM
    simp at hs
    split
    · congr 1; omega
    · rfl
  · have hs' := hs
    unfold sub32 at hs
    simp at hs
    have hn : isNaN .f32 x = false := by rw [nan32]; simp; omega
    obtain ⟨y, e1, e2⟩ := copy_zero n hx hn
    rw [br_t, fltToFlt_wide]
    simp only [bd_s, e1, e2]
    unfold flushM
    rw [if_pos hs.2]
theorem i_flushedq (n : Nat) {x : Nat} (b : Bool) (h : W32 x) : f176_i_flushed (n + 3) x b = some (fl? b x) := by
  rw [f176_i_flushed]
  cases b
  · rfl
  · simp only [br_t, i_flush n h, bd_s]; rfl
theorem i_fstep (n : Nat) (f : Filt) (form : Int) (b : Bool) (m : Mem) (x : Nat) (hm : WMem m) (hx : W32 x) :
    f142_i_Filterstep (n + 4) f.1 f.2.1 f.2.2.1 f.2.2.2.1 f.2.2.2.2 form b m.1 m.2.1 m.2.2.1 m.2.2.2 x =
      some ((fstep f form b m x).1, (fstep f form b m x).2.1, (fstep f form b m x).2.2.1, (fstep f form b m x).2.2.2.1, (fstep f form b m x).2.2.2.2) := by
  obtain ⟨m1, m2, m3, m4⟩ := hm
  rw [f142_i_Filterstep]
  unfold fstep
  by_cases h0 : form = 0
  · simp only [h0, beq_self_eq_true, br_t, if_true, i_flushedq n b (w32_fsub _ _), bd_s, i_flushedq n b hx, i_flushedq n b m1, i_flushedq n b m3, i_flushedq n b (w32_fl? (b := b) (w32_fsub _ _))]
  · have h0' : (form == 0) = false := by simp [h0]
    simp only [h0', br_f, if_neg h0]
    by_cases h1 : form = 1
    · simp only [h1, beq_self_eq_true, br_t, if_true, i_flushedq n b (w32_fsub _ _), i_flushedq n b (w32_fadd _ _), i_flushedq n b w32_zero, bd_s]
    · have h1' : (form == 1) = false := by simp [h1]
      simp only [h1', br_f, if_neg h1, i_flushedq n b (w32_fsub _ _), bd_s, i_flushedq n b (w32_fadd _ _), i_flushedq n b (w32_fl? (b := b) (w32_fsub _ _)), i_flushedq n b m1, i_flushedq n b w32_zero]
theorem i_frun_loop (n : Nat) (f : Filt) (form : Int) (b : Bool) (N : Nat) (cs : List T) (u : Mem) : ∀ (zs p acc : List Nat) (mm : Mem) (m : Nat), (∀ x ∈ zs, W32 x) → WMem mm → acc.length + zs.length < 1048576 → p.length + zs.length < 1048576 → zs.length < m →
    f96_i_Filterrun.l0 (n + 4) m form b N cs f.1 f.2.1 f.2.2.1 f.2.2.2.1 f.2.2.2.2 mm.1 mm.2.1 mm.2.2.1 mm.2.2.2 u.1 u.2.1 u.2.2.1 u.2.2.2 acc.length (fls .f32 acc) (p ++ zs).length (fls .f32 (p ++ zs)) ((p ++ zs).length : Int) (p.length : Int) =
      some ((scan (fstep f form b) mm zs).2.1, (scan (fstep f form b) mm zs).2.2.1, (scan (fstep f form b) mm zs).2.2.2.1, (scan (fstep f form b) mm zs).2.2.2.2, u.1, u.2.1, u.2.2.1, u.2.2.2, (acc ++ (scan (fstep f form b) mm zs).1).length, fls .f32 (acc ++ (scan (fstep f form b) mm zs).1)) := by
  intro zs
  induction zs with
  | nil =>
    intro p acc mm m _ _ _ _ hm
    obtain ⟨m, rfl⟩ : ∃ k, m = k + 1 := ⟨m - 1, by omega⟩
    rw [f96_i_Filterrun.l0, lt_end]
    simp [br_f, scan]
  | cons z zs ih =>
    intro p acc mm m hz hmm ha hp hm
    obtain ⟨m, rfl⟩ : ∃ k, m = k + 1 := ⟨m - 1, by omega⟩
    have hp' : p.length < 1048576 := by simp at hp; omega
    have ha' : acc.length < 1048576 := by simp at ha; omega
    have hw := hz z (by simp)
    rw [f96_i_Filterrun.l0, lt_mid, in_mid, toNat_len, okAt_mid, fAt_mid]
    simp only [br_t, gd_t, Bool.and_self, i_fstep n f form b mm z hmm hw, bd_s, push_ok (show acc.length < 2147483648 by omega), push_fls, wrap_len (z := z) (show p.length < 4611686018427387904 by omega)]
    have := ih (p ++ [z]) (acc ++ [(fstep f form b mm z).1]) (fstep f form b mm z).2 m (fun x hx => hz x (by simp [hx])) (fstep_w32 hmm hw).2 (by simp at ha ⊢; omega) (by simp at hp ⊢; omega) (by simp at hm; omega)
    simpa [scan] using this
theorem i_frun (n : Nat) (f : Filt) (form : Int) (b : Bool) (mm : Mem) (xs : List Nat) (hx : ∀ x ∈ xs, W32 x) (hm : WMem mm) (hl : xs.length < 1048576) (hn : xs.length < n) :
    f96_i_Filterrun (n + 5) f.1 f.2.1 f.2.2.1 f.2.2.2.1 f.2.2.2.2 form b mm.1 mm.2.1 mm.2.2.1 mm.2.2.2 xs.length (fls .f32 xs) =
      some ((scan (fstep f form b) mm xs).1.length, fls .f32 (scan (fstep f form b) mm xs).1, (scan (fstep f form b) mm xs).2.1, (scan (fstep f form b) mm xs).2.2.1, (scan (fstep f form b) mm xs).2.2.2.1, (scan (fstep f form b) mm xs).2.2.2.2) := by
  rw [f96_i_Filterrun]
  have e := i_frun_loop n f form b xs.length (fls .f32 xs) (0, 0, 0, 0) xs [] [] mm (n + 4) hx hm (by simpa using hl) (by simpa using hl) (by omega)
  have e : f96_i_Filterrun.l0 (n + 4) (n + 4) form b xs.length (fls .f32 xs) f.1 f.2.1 f.2.2.1 f.2.2.2.1 f.2.2.2.2 mm.1 mm.2.1 mm.2.2.1 mm.2.2.2 0 0 0 0 0 [] xs.length (fls .f32 xs) (xs.length : Int) 0 = _ := e
  rw [e]; rfl
theorem s_fnumber (n : Nat) {bs : List Int} (hb : Bytes bs) {a : Int} (h0 : 0 ≤ a) (h1 : a ≤ 1125899906842500) (sd : Int) :
    ∃ x a' sd', W32 x ∧ (a ≤ a' ∧ a' ≤ a + 20) ∧ f141_s_l02DrawNumber (n + 6) bs.length (its .u8 bs) a sd = some (x, bs.length, its .u8 bs, a', sd') := by
  obtain ⟨b, a1, s1, ha1, e1⟩ := s_one (n + 2) hb h0 (by omega) sd 8
  rw [f141_s_l02DrawNumber, e1]
  simp only [bd_s]
  cases b
  · obtain ⟨c, a2, s2, ha2, e2⟩ := s_one (n + 2) hb (a := a1) (by omega) (by omega) s1 3
    simp only [br_f, e2, bd_s]
    cases c
    · obtain ⟨r, a3, s3, hr, ha3, e3⟩ := s_pick (n + 3) hb (a := a2) (by omega) (by omega) s2 33
      simp only [br_f, e3, bd_s]
      exact ⟨_, a3, s3, w32_fdiv _ _, by omega, rfl⟩
    · exact ⟨0, a2, s2, w32_zero, by omega, rfl⟩
  · obtain ⟨x, a2, s2, hx, ha2, e2⟩ := s_float n hb (a := a1) (by omega) (by omega) s1
    simp only [br_t, e2, bd_s]
    exact ⟨x, a2, s2, hx, by omega, rfl⟩
theorem s_filter (n : Nat) {bs : List Int} (hb : Bytes bs) {a : Int} (h0 : 0 ≤ a) (h1 : a ≤ 1125899906842000) (sd : Int) :
    ∃ (f : Filt) (a' sd' : Int), (W32 f.1 ∧ W32 f.2.1 ∧ W32 f.2.2.1 ∧ W32 f.2.2.2.1 ∧ W32 f.2.2.2.2) ∧ (a ≤ a' ∧ a' ≤ a + 200) ∧ f93_s_l02DrawFilter (n + 7) bs.length (its .u8 bs) a sd = some (f.1, f.2.1, f.2.2.1, f.2.2.2.1, f.2.2.2.2, bs.length, its .u8 bs, a', sd') := by
  obtain ⟨x1, a1, s1, w1, ha1, e1⟩ := s_fnumber n hb h0 (by omega) sd
  obtain ⟨x2, a2, s2, w2, ha2, e2⟩ := s_fnumber n hb (a := a1) (by omega) (by omega) s1
  obtain ⟨x3, a3, s3, w3, ha3, e3⟩ := s_fnumber n hb (a := a2) (by omega) (by omega) s2
  obtain ⟨r4, a4, s4, -, ha4, e4⟩ := s_pick (n + 4) hb (a := a3) (by omega) (by omega) s3 15
  obtain ⟨r5, a5, s5, -, ha5, e5⟩ := s_pick (n + 4) hb (a := a4) (by omega) (by omega) s4 7
  obtain ⟨b6, a6, s6, ha6, e6⟩ := s_one (n + 3) hb (a := a5) (by omega) (by omega) s5 4
  rw [f93_s_l02DrawFilter, e1]
  simp only [bd_s, e2, e3, e4, e5, e6]
  cases b6
  · obtain ⟨b7, a7, s7, ha7, e7⟩ := s_one (n + 3) hb (a := a6) (by omega) (by omega) s6 4
    simp only [br_f, e7, bd_s]
    cases b7
    · exact ⟨(x1, x2, x3, _, _), a7, s7, ⟨w1, w2, w3, w32_fdiv _ _, w32_fdiv _ _⟩, by omega, rfl⟩
    · obtain ⟨x8, a8, s8, w8, ha8, e8⟩ := s_fnumber n hb (a := a7) (by omega) (by omega) s7
      simp only [br_t, e8, bd_s]
      exact ⟨(x1, x2, x3, _, x8), a8, s8, ⟨w1, w2, w3, w32_fdiv _ _, w8⟩, by omega, rfl⟩
  · obtain ⟨x7, a7, s7, w7, ha7, e7⟩ := s_fnumber n hb (a := a6) (by omega) (by omega) s6
    obtain ⟨b8, a8, s8, ha8, e8⟩ := s_one (n + 3) hb (a := a7) (by omega) (by omega) s7 4
    simp only [br_t, e7, e8, bd_s]
    cases b8
    · exact ⟨(x1, x2, x3, x7, _), a8, s8, ⟨w1, w2, w3, w7, w32_fdiv _ _⟩, by omega, rfl⟩
    · obtain ⟨x9, a9, s9, w9, ha9, e9⟩ := s_fnumber n hb (a := a8) (by omega) (by omega) s8
      simp only [br_t, e9, bd_s]
      exact ⟨(x1, x2, x3, x7, x9), a9, s9, ⟨w1, w2, w3, w7, w9⟩, by omega, rfl⟩

theorem i_zeroed (n k : Nat) (h : k ≤ 2147483648) : f91_i_zeros (n + 1) (k : Int) = some (k, fls .f32 (List.replicate k 0)) := by
  rw [f91_i_zeros, decide_eq_true (show (0 : Int) ≤ (k : Int) ∧ (k : Int) ≤ 2147483648 by omega), gd_t, Int.toNat_natCast, reps_fls]



theorem i_copy (n : Nat) (xs : List Nat) (h : xs.length ≤ 2147483648) : f84_i_copyNumbers (n + 1) xs.length (fls .f32 xs) = some (xs.length, fls .f32 xs) := by
  rw [f84_i_copyNumbers, Nat.zero_add, le_ble h]; rfl
theorem i_taken (n : Nat) (w : Nat) (ws : List Nat) (x : Nat) (h : ws.length < 2147483648) : f168_i_take (n + 2) (w :: ws).length (fls .f32 (w :: ws)) x = some ((ws ++ [x]).length, fls .f32 (ws ++ [x])) := by
  rw [f168_i_take, decide_eq_true (by simp; omega : (0 : Int) ≤ 1 ∧ (1 : Int) ≤ ((w :: ws).length : Int) ∧ ((w :: ws).length : Int) ≤ ((w :: ws).length : Int)), fls_drop, fls_take]
  rw [show (w :: ws).length - 1 = ws.length by simp, show ((w :: ws).drop 1).take ws.length = ws by simp, i_copy n ws (by omega)]
  simp only [gd_t, bd_s, push_ok h, push_fls]
  rw [push_len (z := x)]


theorem i_finite (n : Nat) (x : Nat) : f174_i_IsFinite (n + 1) x = some (fin32 x) := by rw [f174_i_IsFinite, sub_finite]
theorem s_fromx (n : Nat) {i : Int} (h0 : 0 ≤ i) (h1 : i < 4294967296) : f138_s_l01From (n + 2) i = some (canon .f32 i.toNat) := by
  rw [f138_s_l01From, u32_wrap h0 h1]
  show bd (if 0 ≤ i then some (canon .f32 i.toNat) else none) _ = _
  rw [if_pos h0]; rfl
theorem i_scale_loop (n : Nat) (N : Nat) (cs : List T) (by_ : Nat) : ∀ (zs p acc : List Nat) (m : Nat), acc.length + zs.length < 1048576 → p.length + zs.length < 1048576 → zs.length < m →
    f167_i_scaled.l0 n m N cs by_ acc.length (fls .f32 acc) (p ++ zs).length (fls .f32 (p ++ zs)) ((p ++ zs).length : Int) (p.length : Int) = some ((acc ++ zs.map fun z => fmul .f32 z by_).length, fls .f32 (acc ++ zs.map fun z => fmul .f32 z by_)) := by
  intro zs
  induction zs with
  | nil =>
    intro p acc m _ _ hm
    obtain ⟨m, rfl⟩ : ∃ k, m = k + 1 := ⟨m - 1, by omega⟩
    rw [f167_i_scaled.l0, lt_end]
    simp [br_f]
  | cons z zs ih =>
    intro p acc m ha hp hm
    obtain ⟨m, rfl⟩ : ∃ k, m = k + 1 := ⟨m - 1, by omega⟩
    have ha' : acc.length < 1048576 := by simp at ha; omega
    rw [f167_i_scaled.l0, lt_mid, in_mid, toNat_len, okAt_mid, fAt_mid]
    have := ih (p ++ [z]) (acc ++ [fmul .f32 z by_]) m (by simp at ha ⊢; omega) (by simp at hp ⊢; omega) (by simp at hm; omega)
    simp only [br_t, gd_t, Bool.and_self, push_fls, push_ok (show acc.length < 2147483648 by omega), wrap_len (z := z) (show p.length < 4611686018427387904 by simp at hp; omega)]
    simpa using this
theorem i_scaledq (n : Nat) (xs : List Nat) (by_ : Nat) (hx : xs.length < 1048576) (hn : xs.length < n) : f167_i_scaled (n + 1) xs.length (fls .f32 xs) by_ = some ((xs.map fun z => fmul .f32 z by_).length, fls .f32 (xs.map fun z => fmul .f32 z by_)) := by
  rw [f167_i_scaled]
  have e := i_scale_loop n xs.length (fls .f32 xs) by_ xs [] [] n (by simpa using hx) (by simpa using hx) (by omega)
  have e : f167_i_scaled.l0 n n xs.length (fls .f32 xs) by_ 0 [] xs.length (fls .f32 xs) (xs.length : Int) 0 = some ((xs.map fun z => fmul .f32 z by_).length, fls .f32 (xs.map fun z => fmul .f32 z by_)) := e
  rw [e]; rfl

theorem i_absolute (n : Nat) {x : Nat} (hg : W32 x) : f204_i_absolute (n + 2) x = some (size32 x) := by
  obtain ⟨h1, h2⟩ := abs_size hg.1 hg.2 n
  rw [f204_i_absolute, fltToFlt_wide]
  simp only [bd, h1, h2]

/-- the greatest size so far -/
def peakM (m : Nat) (xs : List Nat) : Nat := xs.foldl (fun m x => if fgt .f32 (size32 x) m then size32 x else m) m
theorem w32_peak : ∀ (xs : List Nat) (m : Nat), W32 m → (∀ x ∈ xs, W32 x) → W32 (peakM m xs)
  | [], m, h, _ => h
  | x :: xs, m, h, hx => by
    show W32 (peakM (if fgt .f32 (size32 x) m then size32 x else m) xs)
    refine w32_peak xs _ ?_ (fun y hy => hx y (by simp [hy]))
    split
    · exact w32_size (hx x (by simp))
    · exact h
theorem i_peak_loop (n : Nat) (N : Nat) (cs : List T) : ∀ (zs p : List Nat) (mx m : Nat), (∀ x ∈ zs, W32 x) → p.length + zs.length < 1048576 → zs.length < m →
    f193_i_peakOf.l0 (n + 2) m N cs mx (p ++ zs).length (fls .f32 (p ++ zs)) ((p ++ zs).length : Int) (p.length : Int) = some (peakM mx zs) := by
  intro zs
  induction zs with
  | nil =>
    intro p mx m _ _ hm
    obtain ⟨m, rfl⟩ : ∃ k, m = k + 1 := ⟨m - 1, by omega⟩
    rw [f193_i_peakOf.l0, lt_end]; rfl
  | cons z zs ih =>
    intro p mx m hz hp hm
    obtain ⟨m, rfl⟩ : ∃ k, m = k + 1 := ⟨m - 1, by omega⟩
    have ih' := fun mx => ih (p ++ [z]) mx m (fun x hx => hz x (by simp [hx])) (by simp at hp ⊢; omega) (by simp at hm; omega)
    simp only [List.append_assoc, List.cons_append, List.nil_append] at ih'
    rw [f193_i_peakOf.l0, lt_mid, in_mid, toNat_len, okAt_mid, fAt_mid]
    simp only [br_t, gd_t, Bool.and_self, i_absolute n (hz z (by simp)), bd_s, wrap_len (z := z) (show p.length < 4611686018427387904 by simp at hp; omega)]
    show _ = some (peakM (if fgt .f32 (size32 z) mx then size32 z else mx) zs)
    cases fgt .f32 (size32 z) mx
    · exact ih' mx
    · exact ih' _
theorem i_peak (n : Nat) (xs : List Nat) (hx : ∀ x ∈ xs, W32 x) (hl : xs.length < 1048576) (hn : xs.length < n) : f193_i_peakOf (n + 3) xs.length (fls .f32 xs) = some (peakM 0 xs) := by
  rw [f193_i_peakOf]
  have e := i_peak_loop n xs.length (fls .f32 xs) xs [] 0 (n + 2) hx (by simpa using hl) (by omega)
  have e : f193_i_peakOf.l0 (n + 2) (n + 2) xs.length (fls .f32 xs) 0 xs.length (fls .f32 xs) (xs.length : Int) 0 = some (peakM 0 xs) := e
  rw [e]; rfl
theorem peak_facts : ∀ (xs : List Nat) (m : Nat), W32 m → isNaN .f32 m = false → 0 ≤ key .f32 m → (∀ x ∈ xs, W32 x) →
    isNaN .f32 (peakM m xs) = false ∧ key .f32 m ≤ key .f32 (peakM m xs) ∧ (∀ x ∈ xs, isNaN .f32 x = false → (key .f32 x).natAbs ≤ key .f32 (peakM m xs)) ∧ (peakM m xs = m ∨ ∃ x ∈ xs, isNaN .f32 x = false ∧ peakM m xs = size32 x)
  | [], m, _, hn, _, _ => ⟨hn, Int.le_refl _, by simp, .inl rfl⟩
  | x :: xs, m, hm, hn, h0, hx => by
    have hw := hx x (by simp)
    show isNaN .f32 (peakM (if fgt .f32 (size32 x) m then size32 x else m) xs) = false ∧ _
    cases hc : fgt .f32 (size32 x) m
    · obtain ⟨h1, h2, h3, h4⟩ := peak_facts xs m hm hn h0 (fun y hy => hx y (by simp [hy]))
      have e : peakM m (x :: xs) = peakM m xs := by show peakM (if fgt .f32 (size32 x) m then size32 x else m) xs = _; rw [hc]; rfl
      rw [e]
      refine ⟨h1, h2, fun y hy hyn => ?_, ?_⟩
      · simp only [List.mem_cons] at hy
        rcases hy with rfl | hy
        · rw [fgt_key] at hc
          unfold num2 at hc
          rw [nan_size, hyn, hn, key_size32 hw.1 hyn] at hc
          simp at hc
          omega
        · exact h3 y hy hyn
      · rcases h4 with h4 | ⟨y, hy, h5⟩
        · exact .inl h4
        · exact .inr ⟨y, by simp [hy], h5⟩
    · have hxn : isNaN .f32 x = false := by
        cases h : isNaN .f32 x
        · rfl
        · rw [fgt_nan _ (by rw [nan_size]; exact h)] at hc; cases hc
      have hk := key_size32 hw.1 hxn
      rw [fgt_key] at hc
      unfold num2 at hc
      rw [nan_size, hxn, hn, hk] at hc
      simp at hc
      obtain ⟨h1, h2, h3, h4⟩ := peak_facts xs (size32 x) (w32_size hw) (by rw [nan_size]; exact hxn) (by rw [hk]; omega) (fun y hy => hx y (by simp [hy]))
      have e : peakM m (x :: xs) = peakM (size32 x) xs := by
        show peakM (if fgt .f32 (size32 x) m then size32 x else m) xs = _
        rw [fgt_key]; unfold num2; rw [nan_size, hxn, hn, hk]; simp [hc]
      rw [e]
      refine ⟨h1, by omega, fun y hy hyn => ?_, ?_⟩
      · simp only [List.mem_cons] at hy
        rcases hy with rfl | hy
        · omega
        · exact h3 y hy hyn
      · rcases h4 with h4 | ⟨y, hy, h5⟩
        · exact .inr ⟨x, by simp, hxn, h4⟩
        · exact .inr ⟨y, by simp [hy], h5⟩





theorem i_fol (n : Nat) (a r : Nat) {l x : Nat} (hx : W32 x) : f202_i_Followerstep (n + 3) a r l x = some (a, r, levelM a r l x) := by
  rw [f202_i_Followerstep, i_absolute n hx]
  unfold levelM
  simp only [bd_s, i_flush n (w32_fadd _ _)]
  cases fgt .f32 (size32 x) l <;> rfl
theorem i_gain (n l t q : Nat) : f203_i_GainFor (n + 1) l t q = some (gainM l t q) := by
  rw [f203_i_GainFor]
  unfold gainM
  cases fgt .f32 l t <;> rfl
theorem i_duck_loop (n : Nat) (a r t q u1 u2 u3 u4 u5 : Nat) (M : Nat) (cs : List T) : ∀ (zs ys p s acc : List Nat) (l m : Nat), ys.length = zs.length → s.length = p.length → (∀ x ∈ ys, W32 x) → acc.length + zs.length < 1048576 → p.length + zs.length < 1048576 → zs.length < m →
    f191_i_DuckSamples.l0 (n + 3) m M cs (s ++ ys).length (fls .f32 (s ++ ys)) a r l t q u1 u2 u3 u4 u5 acc.length (fls .f32 acc) (p ++ zs).length (fls .f32 (p ++ zs)) ((p ++ zs).length : Int) (p.length : Int) =
      some (a, r, (scan (duckStep a r t q) l (zs.zip ys)).2, t, q, u1, u2, u3, u4, u5, (acc ++ (scan (duckStep a r t q) l (zs.zip ys)).1).length, fls .f32 (acc ++ (scan (duckStep a r t q) l (zs.zip ys)).1)) := by
  intro zs
  induction zs with
  | nil =>
    intro ys p s acc l m _ _ _ _ _ hm
    obtain ⟨m, rfl⟩ : ∃ k, m = k + 1 := ⟨m - 1, by omega⟩
    rw [f191_i_DuckSamples.l0, lt_end]; simp [br_f, scan]
  | cons z zs ih =>
    intro ys p s acc l m hl hs hy ha hp hm
    obtain ⟨m, rfl⟩ : ∃ k, m = k + 1 := ⟨m - 1, by omega⟩
    cases ys with
    | nil => simp at hl
    | cons y ys =>
      have e1 : okAt [.flt .f32] (fls .f32 (s ++ y :: ys)) p.length = true := by rw [← hs]; exact okAt_mid
      have e2 : fAt (fls .f32 (s ++ y :: ys)) p.length = y := by rw [← hs]; exact fAt_mid
      have e3 : decide ((0 : Int) ≤ (p.length : Int) ∧ (p.length : Int) < ((s ++ y :: ys).length : Int)) = true := by rw [← hs]; exact in_mid
      have ha' : acc.length < 1048576 := by simp at ha; omega
      rw [f191_i_DuckSamples.l0, lt_mid, in_mid, toNat_len, okAt_mid, fAt_mid, e1, e2, e3]
      simp only [br_t, gd_t, Bool.and_self, i_fol n a r (hy y (by simp)), i_gain (n + 2), bd_s, push_ok (show acc.length < 2147483648 by omega), push_fls, wrap_len (z := z) (show p.length < 4611686018427387904 by simp at hp; omega)]
      have := ih ys (p ++ [z]) (s ++ [y]) (acc ++ [fmul .f32 z (gainM (levelM a r l y) t q)]) (levelM a r l y) m (by simpa using hl) (by simp [hs]) (fun x hx => hy x (by simp [hx])) (by simp at ha ⊢; omega) (by simp at hp ⊢; omega) (by simp at hm; omega)
      simpa [scan, duckStep] using this
theorem i_duck (n : Nat) (a r l t q : Nat) (xs ys : List Nat) (hy : ∀ x ∈ ys, W32 x) (hlen : ys.length = xs.length) (hl : xs.length ≤ 256) (hn : xs.length < n) :
    f191_i_DuckSamples (n + 4) a r l t q xs.length (fls .f32 xs) ys.length (fls .f32 ys) = some ((scan (duckStep a r t q) l (xs.zip ys)).1.length, fls .f32 (scan (duckStep a r t q) l (xs.zip ys)).1, a, r, (scan (duckStep a r t q) l (xs.zip ys)).2, t, q, true) := by
  rw [f191_i_DuckSamples, i_few, decide_eq_true (show (xs.length : Int) ≤ 256 by omega), show (((ys.length : Nat) : Int) != ((xs.length : Nat) : Int)) = false by simp [hlen]]
  have e := i_duck_loop n a r t q 0 0 0 0 0 xs.length (fls .f32 xs) xs ys [] [] [] l (n + 3) hlen rfl hy (by simp; omega) (by simp; omega) (by omega)
  have e : f191_i_DuckSamples.l0 (n + 3) (n + 3) xs.length (fls .f32 xs) ys.length (fls .f32 ys) a r l t q 0 0 0 0 0 0 [] xs.length (fls .f32 xs) (xs.length : Int) 0 = _ := e
  simp only [bd_s, br_not, br_t, br_f, e]; rfl
theorem i_runsqueeze (n : Nat) (a r l t q : Nat) (xs : List Nat) (hx : ∀ x ∈ xs, W32 x) (hl : xs.length ≤ 256) (hn : xs.length < n) :
    f170_i_RunSqueeze (n + 5) a r l t q xs.length (fls .f32 xs) = some ((scan (duckStep a r t q) l (xs.zip xs)).1.length, fls .f32 (scan (duckStep a r t q) l (xs.zip xs)).1, a, r, (scan (duckStep a r t q) l (xs.zip xs)).2, t, q, true) := by
  rw [f170_i_RunSqueeze]
  simp only [i_duck n a r l t q xs xs hx rfl hl hn, bd_s]




theorem mul_one32 {x : Nat} (hx : W32 x) (hf : fin32 x = true) : fmul .f32 x 1065353216 = x := by
  have hv := fin_val hf
  by_cases h0 : fval .f32 x = 0
  · rw [h0] at hv
    rcases val_zero_word hx.1 hv with rfl | rfl <;> decide
  · have e : fval .f32 x * 1 = fval .f32 x := Rat.mul_one _
    obtain ⟨s, m, i, h1, h2, h3, h4⟩ := hv
    have hb : mv m i < p2 (topE .f32) := by
      obtain ⟨a1, a2, a3⟩ := single_finite h1
      have q := (mv_lt (m := m) (n := 2 ^ 24) (e := i)).2 (by omega)
      rw [mv_pow] at q
      have q2 := p2_le (show i + ((24 : Nat) : Int) ≤ 128 by omega)
      show mv m i < p2 128
      grind
    have habs : fval .f32 x ≤ mv m i ∧ -(mv m i) ≤ fval .f32 x := by
      have := mv_nonneg m i
      cases s <;> simp only [sg_true, sg_false] at h2 <;> grind
    obtain ⟨R, q1, q2⟩ := mul_val (fin_val hf) val_one32 (B := mv m i) ⟨m, i, h3, h4, rfl⟩ hb (by rw [e]; exact habs.1) (by rw [e]; exact habs.2)
    rw [e] at q2
    have q3 := q1.near_eq q2 (fin_val hf).rep
    exact word_of_val (fmul_lt _ _ _) hx.1 q3 (fin_val hf) h0
theorem mul_one_all {x : Nat} (hx : W32 x) : fmul .f32 x 1065353216 = x := by
  cases hf : fin32 x
  · cases hn : isNaN .f32 x
    · have h1 := num_mag hn
      have h2 := hx.1
      unfold fin32 at hf
      simp only [decide_eq_false_iff_not] at hf
      have : x = 2139095040 ∨ x = 4286578688 := by omega
      rcases this with rfl | rfl <;> decide
    · have : x = qnan .f32 := by rw [← hx.2]; exact canon_nan hn
      rw [this]; decide
  · exact mul_one32 hx hf

/-- a number that is clipped -/
def clipM (lim x : Nat) : Nat := if fgt .f32 (size32 x) lim then (if flt .f32 x 0 then negF .f32 lim else lim) else x
def limT (lim p : Nat) : Nat := if fgt .f32 p lim then fdiv .f32 lim p else 1065353216
def limG (t gn : Nat) : Nat := if flt .f32 t gn then t else if fne .f32 gn gn then t else gn
def limStep (lim rise : Nat) (s : Nat × List Nat) (x : Nat) : Nat × (Nat × List Nat) :=
  (clipM lim (fmul .f32 ((s.2 ++ [x]).getD 0 0) (limG (limT lim (peakM 0 (s.2 ++ [x]))) (fadd .f32 s.1 rise))), (limG (limT lim (peakM 0 (s.2 ++ [x]))) (fadd .f32 s.1 rise), (s.2 ++ [x]).drop 1))
theorem w32_clip {lim x : Nat} (hl : W32 lim) (hx : W32 x) : W32 (clipM lim x) := by
  unfold clipM
  split
  · split
    · exact w32_negF hl
    · exact hl
  · exact hx
theorem w32_one : W32 1065353216 := ⟨by decide, by decide⟩
theorem w32_limG {t gn : Nat} (ht : W32 t) (hg : W32 gn) : W32 (limG t gn) := by
  unfold limG
  split
  · exact ht
  · split
    · exact ht
    · exact hg
theorem w32_limT {lim p : Nat} : W32 (limT lim p) := by
  unfold limT
  split
  · exact w32_fdiv _ _
  · exact w32_one
theorem lim_inv (lim rise : Nat) (hl : W32 lim) (xs : List Nat) (s : Nat × List Nat) (h : W32 s.1 ∧ AllW s.2) (hx : ∀ x ∈ xs, W32 x) :
    AllW (scan (limStep lim rise) s xs).1 ∧ (W32 (scan (limStep lim rise) s xs).2.1 ∧ AllW (scan (limStep lim rise) s xs).2.2) :=
  scan_inv (f := limStep lim rise) (P := fun s => W32 s.1 ∧ AllW s.2) (Q := W32) (S := W32) (fun s x hs hx => ⟨w32_clip hl (w32_fmul _ _), w32_limG w32_limT (w32_fadd _ _), fun y hy => by
    have := List.mem_of_mem_drop hy
    simp only [List.mem_append, List.mem_singleton] at this
    rcases this with h | rfl
    · exact hs.2 y h
    · exact hx⟩) xs s h hx
theorem lim_length (lim rise : Nat) : ∀ (xs : List Nat) (s : Nat × List Nat), (scan (limStep lim rise) s xs).2.2.length = s.2.length := by
  intro xs
  induction xs with
  | nil => intro s; rfl
  | cons x xs ih =>
    intro s
    simp only [scan]
    rw [ih]
    simp [limStep]
theorem i_clip (n : Nat) (lim : Nat) {x : Nat} (hx : W32 x) : f192_i_clipped (n + 3) x lim = some (clipM lim x) := by
  rw [f192_i_clipped, i_absolute n hx]
  simp only [bd_s, br_not]
  unfold clipM
  cases fgt .f32 (size32 x) lim <;> cases flt .f32 x 0 <;> rfl
theorem i_lim_loop (n : Nat) (N : Nat) (cs : List T) (lim rise x8 x9 x10 n11 : Nat) (l12 : List T) (hl : W32 lim) : ∀ (zs p acc : List Nat) (s : Nat × List Nat) (m : Nat), (∀ x ∈ zs, W32 x) → (W32 s.1 ∧ AllW s.2) → s.2.length ≤ 64 → acc.length + zs.length < 1048576 → p.length + zs.length < 1048576 → zs.length < m →
    f173_i_RunLimiter.l0 (n + 100) m N cs lim rise s.1 s.2.length (fls .f32 s.2) x8 x9 x10 n11 l12 acc.length (fls .f32 acc) (p ++ zs).length (fls .f32 (p ++ zs)) ((p ++ zs).length : Int) (p.length : Int) =
      some (lim, rise, (scan (limStep lim rise) s zs).2.1, (scan (limStep lim rise) s zs).2.2.length, fls .f32 (scan (limStep lim rise) s zs).2.2, x8, x9, x10, n11, l12, (acc ++ (scan (limStep lim rise) s zs).1).length, fls .f32 (acc ++ (scan (limStep lim rise) s zs).1)) := by
  intro zs
  induction zs with
  | nil =>
    intro p acc s m _ _ _ _ _ hm
    obtain ⟨m, rfl⟩ : ∃ k, m = k + 1 := ⟨m - 1, by omega⟩
    rw [f173_i_RunLimiter.l0, lt_end]
    simp [br_f, scan]
  | cons z zs ih =>
    intro p acc s m hz hs hw ha hp hm
    obtain ⟨m, rfl⟩ : ∃ k, m = k + 1 := ⟨m - 1, by omega⟩
    have hp' : p.length < 1048576 := by simp at hp; omega
    have ha' : acc.length < 1048576 := by simp at ha; omega
    have hall : AllW (s.2 ++ [z]) := fun y hy => by
      simp only [List.mem_append, List.mem_singleton] at hy
      rcases hy with h | rfl
      · exact hs.2 y h
      · exact hz _ (by simp)
    have hpk := i_peak (n + 97) (s.2 ++ [z]) hall (by simp; omega) (by simp; omega)
    have hlen : s.2.length + 1 = (s.2 ++ [z]).length := by simp
    have c1 : decide ((0 : Int) ≤ 1 ∧ (1 : Int) ≤ ((s.2 ++ [z]).length : Int) ∧ ((s.2 ++ [z]).length : Int) ≤ ((s.2 ++ [z]).length : Int)) = true := decide_eq_true (by simp; omega)
    have c2 : ((fls .f32 (s.2 ++ [z])).drop 1).take ((s.2 ++ [z]).length - 1) = fls .f32 ((s.2 ++ [z]).drop 1) := by
      rw [fls_drop, fls_take, List.take_of_length_le (by simp)]
    have c3 : decide ((0 : Int) ≤ 0 ∧ (0 : Int) < ((s.2 ++ [z]).length : Int)) = true := decide_eq_true (by simp)
    have c4 : okAt [.flt .f32] (fls .f32 (s.2 ++ [z])) 0 = true := okAt_fls (by simp)
    have c5 : (s.2 ++ [z]).length - 1 = ((s.2 ++ [z]).drop 1).length := by simp
    rw [c5] at c2
    have c6 : Nat.ble (s.2 ++ [z]).length 2147483648 = true := le_ble (by simp; omega)
    have ih' := ih (p ++ [z]) (acc ++ [(limStep lim rise s z).1]) (limStep lim rise s z).2 m (fun x hx => hz x (by simp [hx]))
      ⟨w32_limG w32_limT (w32_fadd _ _), fun y hy => hall y (List.mem_of_mem_drop hy)⟩ (by simp [limStep]; omega) (by simp at ha ⊢; omega) (by simp at hp ⊢; omega) (by simp at hm; omega)
    rw [show p ++ [z] ++ zs = p ++ z :: zs by simp] at ih'
    rw [f173_i_RunLimiter.l0, lt_mid, in_mid, toNat_len, okAt_mid, fAt_mid]
    simp only [br_t, gd_t, Bool.and_self, i_copy (n + 99) s.2 (by omega), bd_s, push_fls, hlen, hpk, c1, c2, c3, c4, fAt_fls, c6, i_clip (n + 97) lim (w32_fmul _ _), push_ok (show acc.length < 2147483648 by omega), wrap_len (z := z) (show p.length < 4611686018427387904 by omega), c5]
    have e1 : scan (limStep lim rise) s (z :: zs) = ((limStep lim rise s z).1 :: (scan (limStep lim rise) (limStep lim rise s z).2 zs).1, (scan (limStep lim rise) (limStep lim rise s z).2 zs).2) := rfl
    rw [e1]
    have e2 : ∀ t gn, limT lim (peakM 0 (s.2 ++ [z])) = t → fadd .f32 s.1 rise = gn → ∀ g, limG t gn = g → limStep lim rise s z = (clipM lim (fmul .f32 ((s.2 ++ [z]).getD 0 0) g), (g, (s.2 ++ [z]).drop 1)) := by
      rintro t gn rfl rfl g rfl
      rfl
    have e3 : acc ++ (limStep lim rise s z).1 :: (scan (limStep lim rise) (limStep lim rise s z).2 zs).1 = (acc ++ [(limStep lim rise s z).1]) ++ (scan (limStep lim rise) (limStep lim rise s z).2 zs).1 := by simp
    have e4 : (acc ++ [(limStep lim rise s z).1]).length = acc.length + 1 := by simp
    simp only [e3]
    rw [e4] at ih'
    cases hc : fgt .f32 (peakM 0 (s.2 ++ [z])) lim
    · have ht : limT lim (peakM 0 (s.2 ++ [z])) = 1065353216 := by unfold limT; simp [hc]
      cases h1 : flt .f32 1065353216 (fadd .f32 s.1 rise)
      · cases h2 : fne .f32 (fadd .f32 s.1 rise) (fadd .f32 s.1 rise)
        · have e := e2 _ _ ht rfl (fadd .f32 s.1 rise) (by unfold limG; simp [h1, h2])
          rw [e] at ih' ⊢
          exact ih'
        · have e := e2 _ _ ht rfl 1065353216 (by unfold limG; simp [h1, h2])
          rw [e] at ih' ⊢
          exact ih'
      · have e := e2 _ _ ht rfl 1065353216 (by unfold limG; simp [h1])
        rw [e] at ih' ⊢
        exact ih'
    · have ht : limT lim (peakM 0 (s.2 ++ [z])) = fdiv .f32 lim (peakM 0 (s.2 ++ [z])) := by unfold limT; simp [hc]
      cases h1 : flt .f32 (fdiv .f32 lim (peakM 0 (s.2 ++ [z]))) (fadd .f32 s.1 rise)
      · cases h2 : fne .f32 (fadd .f32 s.1 rise) (fadd .f32 s.1 rise)
        · have e := e2 _ _ ht rfl (fadd .f32 s.1 rise) (by unfold limG; simp [h1, h2])
          rw [e] at ih' ⊢
          exact ih'
        · have e := e2 _ _ ht rfl (fdiv .f32 lim (peakM 0 (s.2 ++ [z]))) (by unfold limG; simp [h1, h2])
          rw [e] at ih' ⊢
          exact ih'
      · have e := e2 _ _ ht rfl (fdiv .f32 lim (peakM 0 (s.2 ++ [z]))) (by unfold limG; simp [h1])
        rw [e] at ih' ⊢
        exact ih'
theorem i_islimit (n : Nat) (lim : Nat) : f137_i_isLimit (n + 2) lim = some (fin32 lim && fgt .f32 lim 0) := by
  rw [f137_i_isLimit, i_finite]
  cases fin32 lim <;> rfl
theorem i_runlimiter (n : Nat) (lim rise g : Nat) (w xs : List Nat) (hl : W32 lim) (hlim : (fin32 lim && fgt .f32 lim 0) = true) (hg : W32 g) (hw : AllW w) (hwl : w.length ≤ 64) (hx : ∀ x ∈ xs, W32 x) (hxl : xs.length ≤ 256) (hn : 300 < n) :
    f173_i_RunLimiter (n + 101) lim rise g w.length (fls .f32 w) xs.length (fls .f32 xs) =
      some ((scan (limStep lim rise) (g, w) xs).1.length, fls .f32 (scan (limStep lim rise) (g, w) xs).1, lim, rise, (scan (limStep lim rise) (g, w) xs).2.1, (scan (limStep lim rise) (g, w) xs).2.2.length, fls .f32 (scan (limStep lim rise) (g, w) xs).2.2, true) := by
  have e := i_lim_loop n xs.length (fls .f32 xs) lim rise 0 0 0 0 [] hl xs [] [] (g, w) (n + 100) hx ⟨hg, hw⟩ hwl (by simp; omega) (by simp; omega) (by omega)
  have e : f173_i_RunLimiter.l0 (n + 100) (n + 100) xs.length (fls .f32 xs) lim rise g w.length (fls .f32 w) 0 0 0 0 [] 0 [] xs.length (fls .f32 xs) (xs.length : Int) 0 = _ := e
  have hlen := lim_length lim rise xs (g, w)
  rw [f173_i_RunLimiter, i_islimit, hlim, i_few, i_copy (n + 99) w (by omega), decide_eq_false (show ¬ (w.length : Int) > 64 by omega), decide_eq_true (show (xs.length : Int) ≤ 256 by omega)]
  simp only [bd_s, br_not, br_t, br_f, e, i_copy (n + 99) (scan (limStep lim rise) (g, w) xs).2.2 (by simp at hlen; omega), List.nil_append]
theorem i_clips_loop (n : Nat) (N : Nat) (cs : List T) (lim : Nat) : ∀ (zs p acc : List Nat) (m : Nat), (∀ x ∈ zs, W32 x) → acc.length + zs.length < 1048576 → p.length + zs.length < 1048576 → zs.length < m →
    f171_i_ClipSamples.l0 (n + 3) m N cs lim acc.length (fls .f32 acc) (p ++ zs).length (fls .f32 (p ++ zs)) ((p ++ zs).length : Int) (p.length : Int) = some ((acc ++ zs.map (clipM lim)).length, fls .f32 (acc ++ zs.map (clipM lim))) := by
  intro zs
  induction zs with
  | nil =>
    intro p acc m _ _ _ hm
    obtain ⟨m, rfl⟩ : ∃ k, m = k + 1 := ⟨m - 1, by omega⟩
    rw [f171_i_ClipSamples.l0, lt_end]; simp [br_f]
  | cons z zs ih =>
    intro p acc m hz ha hp hm
    obtain ⟨m, rfl⟩ : ∃ k, m = k + 1 := ⟨m - 1, by omega⟩
    have ha' : acc.length < 1048576 := by simp at ha; omega
    rw [f171_i_ClipSamples.l0, lt_mid, in_mid, toNat_len, okAt_mid, fAt_mid]
    simp only [br_t, gd_t, Bool.and_self, i_clip n lim (hz z (by simp)), bd_s, push_ok (show acc.length < 2147483648 by omega), push_fls, wrap_len (z := z) (show p.length < 4611686018427387904 by simp at hp; omega)]
    have := ih (p ++ [z]) (acc ++ [clipM lim z]) m (fun x hx => hz x (by simp [hx])) (by simp at ha ⊢; omega) (by simp at hp ⊢; omega) (by simp at hm; omega)
    simpa using this
theorem i_clips (n : Nat) (lim : Nat) (xs : List Nat) (hx : ∀ x ∈ xs, W32 x) (hl : xs.length ≤ 256) (hn : xs.length < n) : f171_i_ClipSamples (n + 4) xs.length (fls .f32 xs) lim = some (xs.length, fls .f32 (xs.map (clipM lim)), true) := by
  have e := i_clips_loop n xs.length (fls .f32 xs) lim xs [] [] (n + 3) hx (by simp; omega) (by simp; omega) (by omega)
  have e : f171_i_ClipSamples.l0 (n + 3) (n + 3) xs.length (fls .f32 xs) lim 0 [] xs.length (fls .f32 xs) (xs.length : Int) 0 = _ := e
  rw [f171_i_ClipSamples, i_few, decide_eq_true (show (xs.length : Int) ≤ 256 by omega)]
  simp only [bd_s, br_not, br_t, e, List.nil_append, List.length_map]
/-! ### What is within the limit -/
theorem lim_key {lim : Nat} (hl : W32 lim) (h : (fin32 lim && fgt .f32 lim 0) = true) : isNaN .f32 lim = false ∧ 0 < key .f32 lim := by
  simp only [Bool.and_eq_true] at h
  have hn := fin_num h.1
  refine ⟨hn, ?_⟩
  have h2 := h.2
  rw [fgt_key] at h2
  simp only [Bool.and_eq_true, decide_eq_true_eq] at h2
  have : key .f32 0 = 0 := by decide
  omega
theorem clip_within {lim x : Nat} (hl : W32 lim) (h : (fin32 lim && fgt .f32 lim 0) = true) (hx : W32 x) : fgt .f32 (clipM lim x) lim = false ∧ flt .f32 (clipM lim x) (negF .f32 lim) = false := by
  obtain ⟨hn, hk⟩ := lim_key hl h
  have hnn := isNaN_negF32 hl.1 hn
  have hkn := key_negF32 hl.1 hn
  unfold clipM
  cases hc : fgt .f32 (size32 x) lim
  · simp only [Bool.false_eq_true, if_false]
    cases hxn : isNaN .f32 x
    · have hks := key_size32 hx.1 hxn
      rw [fgt_key] at hc
      unfold num2 at hc
      rw [nan_size, hxn, hn, hks] at hc
      simp at hc
      rw [fgt_key, flt_key]
      unfold num2
      rw [hxn, hn, hnn, hkn]
      simp
      omega
    · exact ⟨fgt_nan _ hxn, flt_nan _ hxn⟩
  · simp only [if_true]
    split
    · rw [fgt_key, flt_key]
      unfold num2
      rw [hn, hnn, hkn]
      simp
      omega
    · rw [fgt_key, flt_key]
      unfold num2
      rw [hn, hnn, hkn]
      simp
      omega
def quietB (lim x : Nat) : Bool := fle .f32 x lim && fge .f32 x (negF .f32 lim)
theorem quiet_key {lim x : Nat} (hl : W32 lim) (h : (fin32 lim && fgt .f32 lim 0) = true) (hq : quietB lim x = true) : isNaN .f32 x = false ∧ ((key .f32 x).natAbs : Int) ≤ key .f32 lim := by
  obtain ⟨hn, hk⟩ := lim_key hl h
  have hkn := key_negF32 hl.1 hn
  unfold quietB at hq
  rw [fle_key, fge_key] at hq
  unfold num2 at hq
  rw [hkn] at hq
  simp only [Bool.and_eq_true, Bool.not_eq_true', decide_eq_true_eq] at hq
  exact ⟨hq.1.1.1, by omega⟩
theorem quiet_zero {lim : Nat} (hl : W32 lim) (h : (fin32 lim && fgt .f32 lim 0) = true) : quietB lim 0 = true := by
  obtain ⟨hn, hk⟩ := lim_key hl h
  have hnn := isNaN_negF32 hl.1 hn
  have hkn := key_negF32 hl.1 hn
  have k0 : key .f32 0 = 0 := by decide
  have n0 : isNaN .f32 0 = false := by decide
  unfold quietB
  rw [fle_key, fge_key]
  unfold num2
  rw [hkn, hn, hnn, k0, n0]
  simp
  omega
theorem quiet_clip {lim x : Nat} (hl : W32 lim) (h : (fin32 lim && fgt .f32 lim 0) = true) (hx : W32 x) (hq : quietB lim x = true) : clipM lim x = x := by
  obtain ⟨hxn, hk⟩ := quiet_key hl h hq
  obtain ⟨hn, hk0⟩ := lim_key hl h
  unfold clipM
  rw [fgt_key]
  unfold num2
  rw [nan_size, hxn, hn, key_size32 hx.1 hxn]
  have : ¬ key .f32 lim < ((key .f32 x).natAbs : Int) := by omega
  simp [this]
theorem quiet_fin {lim x : Nat} (hl : W32 lim) (h : (fin32 lim && fgt .f32 lim 0) = true) (hx : W32 x) (hq : quietB lim x = true) : fin32 x = true := by
  obtain ⟨hxn, hk⟩ := quiet_key hl h hq
  obtain ⟨hn, hk0⟩ := lim_key hl h
  simp only [Bool.and_eq_true] at h
  have hf := h.1
  rw [key32 hl.1] at hk hk0
  rw [key32 hx.1] at hk
  unfold fin32 at hf ⊢
  simp only [decide_eq_true_eq] at hf ⊢
  have := hx.1
  have := hl.1
  split at hk0 <;> split at hk <;> omega
theorem quiet_peak {lim : Nat} (hl : W32 lim) (h : (fin32 lim && fgt .f32 lim 0) = true) (xs : List Nat) (hx : ∀ x ∈ xs, W32 x ∧ quietB lim x = true) : fgt .f32 (peakM 0 xs) lim = false := by
  obtain ⟨hn, hk0⟩ := lim_key hl h
  obtain ⟨h1, h2, h3, h4⟩ := peak_facts xs 0 w32_zero (by decide) (by decide) (fun x hx' => (hx x hx').1)
  rw [fgt_key]
  unfold num2
  rw [h1, hn]
  have : key .f32 (peakM 0 xs) ≤ key .f32 lim := by
    rcases h4 with h4 | ⟨x, hx', hxn, h4⟩
    · rw [h4]
      have : key .f32 0 = 0 := by decide
      omega
    · rw [h4, key_size32 (hx x hx').1.1 hxn]
      exact (quiet_key hl h (hx x hx').2).2
  have : ¬ key .f32 lim < key .f32 (peakM 0 xs) := by omega
  simp [this]
theorem quiet_scan {lim rise : Nat} (hl : W32 lim) (h : (fin32 lim && fgt .f32 lim 0) = true) (hr : limG 1065353216 (fadd .f32 1065353216 rise) = 1065353216) : ∀ (xs w : List Nat), (∀ x ∈ xs, W32 x ∧ quietB lim x = true) → (∀ x ∈ w, W32 x ∧ quietB lim x = true) →
    scan (limStep lim rise) (1065353216, w) xs = ((w ++ xs).take xs.length, (1065353216, (w ++ xs).drop xs.length)) := by
  intro xs
  induction xs with
  | nil => intro w _ _; simp [scan]
  | cons x xs ih =>
    intro w hx hw
    have hall : ∀ y ∈ w ++ [x], W32 y ∧ quietB lim y = true := fun y hy => by
      simp only [List.mem_append, List.mem_singleton] at hy
      rcases hy with hy | rfl
      · exact hw y hy
      · exact hx _ (by simp)
    obtain ⟨v, vs, hv⟩ : ∃ v vs, w ++ [x] = v :: vs := by cases w with
      | nil => exact ⟨x, [], rfl⟩
      | cons v vs => exact ⟨v, vs ++ [x], rfl⟩
    have ht : limT lim (peakM 0 (w ++ [x])) = 1065353216 := by unfold limT; rw [quiet_peak hl h _ hall]; rfl
    have hv0 := hall v (by rw [hv]; simp)
    have e : limStep lim rise (1065353216, w) x = (v, (1065353216, vs)) := by
      unfold limStep
      simp only [ht, hr]
      rw [hv]
      simp only [List.getD_cons_zero, List.drop_succ_cons, List.drop_zero]
      rw [mul_one32 hv0.1 (quiet_fin hl h hv0.1 hv0.2), quiet_clip hl h hv0.1 hv0.2]
    have e2 : w ++ x :: xs = v :: (vs ++ xs) := by
      rw [show w ++ x :: xs = (w ++ [x]) ++ xs by simp, hv]; rfl
    simp only [scan, e]
    rw [ih vs (fun y hy => hx y (by simp [hy])) (fun y hy => hall y (by rw [hv]; simp [hy])), e2]
    simp
theorem limit_tab : ∀ k : Nat, k < 32 → (fin32 (fdiv .f32 (FloatKind.f32.nearest ((k + 1 : Nat) : Int)) 1098907648) && fgt .f32 (fdiv .f32 (FloatKind.f32.nearest ((k + 1 : Nat) : Int)) 1098907648) 0) = true := by decide +kernel
theorem rise_tab : ∀ k : Nat, k < 17 → limG 1065353216 (fadd .f32 1065353216 (fdiv .f32 (FloatKind.f32.nearest (k : Int)) 1098907648)) = 1065353216 := by decide +kernel

structure Eff where
  kind : Int
  len : Int
  nums : List Nat
def effC (e : Eff) : List T := [.int .i64 e.kind, .int .i64 e.len, .lst e.nums.length (fls .f32 e.nums)]
def effs (es : List Eff) : List T := es.flatMap effC
def eAt (es : List Eff) (i : Nat) : Eff := es.getD i ⟨5, 0, []⟩
theorem eff_get {c : Nat} (hc : c < 3) : ∀ (ts : List Eff) (i : Nat), i < ts.length → (effs ts)[i * 3 + c]? = (effC (eAt ts i))[c]?
  | [], i, h => by simp at h
  | t :: ts, 0, _ => by
    show (effC t ++ effs ts)[0 * 3 + c]? = _
    rw [List.getElem?_append_left (by simp [effC]; omega), Nat.zero_mul, Nat.zero_add]; rfl
  | t :: ts, i + 1, h => by
    show (effC t ++ effs ts)[(i + 1) * 3 + c]? = _
    rw [List.getElem?_append_right (by simp [effC]; omega), show (i + 1) * 3 + c - (effC t).length = i * 3 + c by simp [effC]; omega, eff_get hc ts i (by simpa using h)]
    rfl
section
variable {ts : List Eff} {i : Nat} (h : i < ts.length)
include h
theorem okE : okAt [.int .i64, .int .i64, .lst] (effs ts) (i * 3 + 0) = true := by
  have h0 := eff_get (c := 0) (by decide) ts i h
  have h1 := eff_get (c := 1) (by decide) ts i h
  have h2 := eff_get (c := 2) (by decide) ts i h
  simp only [effC, List.getElem?_cons_zero, List.getElem?_cons_succ] at h0 h1 h2
  rw [Nat.add_zero] at h0
  simp [okAt, Nat.add_assoc, h0, h1, h2, isCK]
theorem kE : iAt (effs ts) (i * 3 + 0) = (eAt ts i).kind := by unfold iAt; rw [eff_get (c := 0) (by decide) ts i h]; rfl
theorem gE : iAt (effs ts) (i * 3 + 0 + 1) = (eAt ts i).len := by unfold iAt; rw [show i * 3 + 0 + 1 = i * 3 + 1 from rfl, eff_get (c := 1) (by decide) ts i h]; rfl
theorem nE : nAt (effs ts) (i * 3 + 0 + 1 + 1) = (eAt ts i).nums.length := by unfold nAt; rw [show i * 3 + 0 + 1 + 1 = i * 3 + 2 from rfl, eff_get (c := 2) (by decide) ts i h]; rfl
theorem lE : lAt (effs ts) (i * 3 + 0 + 1 + 1) = fls .f32 (eAt ts i).nums := by unfold lAt; rw [show i * 3 + 0 + 1 + 1 = i * 3 + 2 from rfl, eff_get (c := 2) (by decide) ts i h]; rfl
theorem eff_drop : ts.drop i = eAt ts i :: ts.drop (i + 1) := by
  rw [List.drop_eq_getElem_cons h]
  simp [eAt, List.getD, h]
theorem eAt_mem : eAt ts i ∈ ts := by
  have : eAt ts i = ts[i] := by simp [eAt, List.getD, h]
  rw [this]; exact List.getElem_mem h
end
theorem push_eff (acc : List Eff) (e : Eff) : effs acc ++ setN (reps 1 [(T.int .i64 (0 : Int)), (T.int .i64 (0 : Int)), (T.lst 0 [])]) 0 (effC e) = effs (acc ++ [e]) := by
  unfold effs
  rw [List.flatMap_append, List.flatMap_singleton]; rfl
theorem s_share (n : Nat) {bs : List Int} (hb : Bytes bs) {a : Int} (h0 : 0 ≤ a) (h1 : a ≤ 1125899906842500) (sd : Int) :
    ∃ x a' sd', W32 x ∧ (a ≤ a' ∧ a' ≤ a + 20) ∧ f165_s_l04DrawShare (n + 6) bs.length (its .u8 bs) a sd = some (x, bs.length, its .u8 bs, a', sd') := by
  obtain ⟨b, a1, s1, ha1, e1⟩ := s_one (n + 2) hb h0 (by omega) sd 10
  obtain ⟨x, a2, s2, hx, ha2, e2⟩ := s_float n hb (a := a1) (by omega) (by omega) s1
  obtain ⟨r, a3, s3, -, ha3, e3⟩ := s_pick (n + 3) hb (a := a1) (by omega) (by omega) s1 17
  rw [f165_s_l04DrawShare, e1]
  cases b
  · simp only [bd_s, br_f, e3]
    exact ⟨_, a3, s3, w32_fdiv _ _, by omega, rfl⟩
  · simp only [bd_s, br_t, e2]
    exact ⟨x, a2, s2, hx, by omega, rfl⟩
theorem s_follow (n : Nat) {bs : List Int} (hb : Bytes bs) {a : Int} (h0 : 0 ≤ a) (h1 : a ≤ 1125899906842300) (sd : Int) :
    ∃ x y z a' sd', (W32 x ∧ W32 y ∧ W32 z) ∧ (a ≤ a' ∧ a' ≤ a + 80) ∧ f188_s_l04DrawFollower (n + 7) bs.length (its .u8 bs) a sd = some (x, y, z, bs.length, its .u8 bs, a', sd') := by
  obtain ⟨x, a1, s1, hx, ha1, e1⟩ := s_share n hb h0 (by omega) sd
  obtain ⟨y, a2, s2, hy, ha2, e2⟩ := s_share n hb (a := a1) (by omega) (by omega) s1
  obtain ⟨b, a3, s3, ha3, e3⟩ := s_one (n + 3) hb (a := a2) (by omega) (by omega) s2 2
  obtain ⟨z, a4, s4, hz, ha4, e4⟩ := s_float (n + 1) hb (a := a3) (by omega) (by omega) s3
  rw [f188_s_l04DrawFollower, e1]
  cases b
  · simp only [bd_s, e2, e3, br_f]
    exact ⟨x, y, 0, a3, s3, ⟨hx, hy, w32_zero⟩, by omega, rfl⟩
  · simp only [bd_s, e2, e3, br_t, e4]
    exact ⟨x, y, z, a4, s4, ⟨hx, hy, hz⟩, by omega, rfl⟩
/-- effects -/
inductive Ef
  | scale (g : Nat)
  | filt (f1 f2 f3 f4 f5 : Nat)
  | echo (L : Nat) (p q : Nat)
  | squeeze (p q r s : Nat)
  | clip (g : Nat)
  | bend
  | lim (A : Nat) (k : Nat) (r : Nat)
def limW (k : Nat) : Nat := fdiv .f32 (FloatKind.f32.nearest (1 + (k : Int))) 1098907648
def Ef.eff : Ef → Eff
  | .scale g => ⟨0, 0, [g]⟩
  | .filt a b c d e => ⟨1, 0, [a, b, c, d, e]⟩
  | .echo L p q => ⟨2, (L : Int), [p, q]⟩
  | .squeeze p q r s => ⟨3, 0, [p, q, r, s]⟩
  | .clip g => ⟨4, 0, [g]⟩
  | .bend => ⟨5, 0, []⟩
  | .lim A k r => ⟨6, (A : Int), [limW k, r]⟩
def Ef.Ok : Ef → Prop
  | .echo L _ _ => 1 ≤ L ∧ L ≤ 5
  | .lim A k _ => A ≤ 4 ∧ k < 16
  | .clip g => W32 g
  | _ => True
theorem s_drawsq (n : Nat) {bs : List Int} (hb : Bytes bs) {a : Int} (h0 : 0 ≤ a) (h1 : a ≤ 1125899906842000) (sd : Int) :
    ∃ p q x r s a' sd', (a ≤ a' ∧ a' ≤ a + 200) ∧ f166_s_l04DrawSqueeze (n + 8) bs.length (its .u8 bs) a sd = some (p, q, x, r, s, bs.length, its .u8 bs, a', sd') := by
  obtain ⟨x, y, z, a1, s1, -, ha1, e1⟩ := s_follow n hb h0 (by omega) sd
  obtain ⟨w, a2, s2, -, ha2, e2⟩ := s_share (n + 1) hb (a := a1) (by omega) (by omega) s1
  obtain ⟨r, a3, s3, -, ha3, e3⟩ := s_pick (n + 5) hb (a := a2) (by omega) (by omega) s2 8
  obtain ⟨b, a4, s4, ha4, e4⟩ := s_one (n + 4) hb (a := a3) (by omega) (by omega) s3 10
  obtain ⟨v, a5, s5, -, ha5, e5⟩ := s_float (n + 2) hb (a := a4) (by omega) (by omega) s4
  rw [f166_s_l04DrawSqueeze, e1]
  cases b
  · simp only [bd_s, e2, e3, e4, br_f]
    exact ⟨x, y, z, w, _, a4, s4, by omega, rfl⟩
  · simp only [bd_s, e2, e3, e4, br_t, e5]
    exact ⟨x, y, z, w, v, a5, s5, by omega, rfl⟩
theorem s_effect (n : Nat) {bs : List Int} (hb : Bytes bs) {a : Int} (h0 : 0 ≤ a) (h1 : a ≤ 1125899906840000) (sd : Int) :
    ∃ (e : Ef) (a' sd' : Int), e.Ok ∧ (a ≤ a' ∧ a' ≤ a + 400) ∧ f132_s_l08DrawEffect (n + 9) bs.length (its .u8 bs) a sd = some (e.eff.kind, e.eff.len, e.eff.nums.length, fls .f32 e.eff.nums, bs.length, its .u8 bs, a', sd') := by
  obtain ⟨k, a1, s1, hk, ha1, e1⟩ := s_pick (n + 6) hb h0 (by omega) sd 7
  have hk7 := hk.2.1 (by omega)
  have hk0 := hk.1
  obtain ⟨x, a2, s2, hx, ha2, e2⟩ := s_share (n + 2) hb (a := a1) (by omega) (by omega) s1
  obtain ⟨f, a3, s3, -, ha3, e3⟩ := s_filter (n + 1) hb (a := a1) (by omega) (by omega) s1
  obtain ⟨p, q, y, r, s, a4, s4, ha4, e4⟩ := s_drawsq n hb (a := a1) (by omega) (by omega) s1
  obtain ⟨L, b1, t1, hL, hb1, g1⟩ := s_pick (n + 6) hb (a := a1) (by omega) (by omega) s1 5
  obtain ⟨L, rfl⟩ := Int.eq_ofNat_of_zero_le hL.1
  have hL5 := hL.2.1 (by omega)
  obtain ⟨u, b2, t2, -, hb2, g2⟩ := s_share (n + 2) hb (a := b1) (by omega) (by omega) t1
  obtain ⟨v, b3, t3, -, hb3, g3⟩ := s_share (n + 2) hb (a := b2) (by omega) (by omega) t2
  obtain ⟨m, c2, v2, hm, hc2, d2⟩ := s_pick (n + 6) hb (a := b1) (by omega) (by omega) t1 16
  obtain ⟨m, rfl⟩ := Int.eq_ofNat_of_zero_le hm.1
  have hm16 := hm.2.1 (by omega)
  obtain ⟨w, c3, v3, -, hc3, d3⟩ := s_share (n + 2) hb (a := c2) (by omega) (by omega) v2
  have w1 : IntKind.i64.wrap ((1 : Int) + (L : Int)) = ((L + 1 : Nat) : Int) := by rw [wrap64] <;> omega
  have w2 : IntKind.i64.wrap ((1 : Int) + (m : Int)) = 1 + (m : Int) := by rw [wrap64] <;> omega
  rw [f132_s_l08DrawEffect, e1]
  rcases (show k = 0 ∨ k = 1 ∨ k = 2 ∨ k = 3 ∨ k = 4 ∨ k = 5 ∨ k = 6 by omega) with rfl | rfl | rfl | rfl | rfl | rfl | rfl
  · simp only [bd_s, beq_self_eq_true, br_t, e2]
    exact ⟨.scale x, a2, s2, trivial, by omega, rfl⟩
  · simp only [bd_s, show ((1 : Int) == 0) = false from rfl, show ((1 : Int) == 4) = false from rfl, show ((1 : Int) == 1) = true from rfl, br_t, br_f, e3]
    exact ⟨.filt _ _ _ _ _, a3, s3, trivial, by omega, rfl⟩
  · simp only [bd_s, show ((2 : Int) == 0) = false from rfl, show ((2 : Int) == 4) = false from rfl, show ((2 : Int) == 1) = false from rfl, show ((2 : Int) == 2) = true from rfl, br_t, br_f, g1, w1, g2, g3]
    exact ⟨.echo (L + 1) u v, b3, t3, ⟨by omega, by omega⟩, by omega, rfl⟩
  · simp only [bd_s, show ((3 : Int) == 0) = false from rfl, show ((3 : Int) == 4) = false from rfl, show ((3 : Int) == 1) = false from rfl, show ((3 : Int) == 2) = false from rfl, show ((3 : Int) == 3) = true from rfl, br_t, br_f, e4]
    exact ⟨.squeeze p q r s, a4, s4, trivial, by omega, rfl⟩
  · simp only [bd_s, show ((4 : Int) == 0) = false from rfl, show ((4 : Int) == 4) = true from rfl, br_t, br_f, e2]
    exact ⟨.clip x, a2, s2, hx, by omega, rfl⟩
  · simp only [bd_s, show ((5 : Int) == 0) = false from rfl, show ((5 : Int) == 4) = false from rfl, show ((5 : Int) == 1) = false from rfl, show ((5 : Int) == 2) = false from rfl, show ((5 : Int) == 3) = false from rfl, show ((5 : Int) == 6) = false from rfl, br_f]
    exact ⟨.bend, a1, s1, trivial, by omega, rfl⟩
  · simp only [bd_s, show ((6 : Int) == 0) = false from rfl, show ((6 : Int) == 4) = false from rfl, show ((6 : Int) == 1) = false from rfl, show ((6 : Int) == 2) = false from rfl, show ((6 : Int) == 3) = false from rfl, show ((6 : Int) == 6) = true from rfl, br_t, br_f, g1, d2, w2, d3]
    exact ⟨.lim L m w, c3, v3, ⟨by omega, by omega⟩, by omega, rfl⟩
def effL (es : List Ef) : List Eff := es.map (·.eff)
theorem s_chain_loop (n : Nat) {bs : List Int} (hb : Bytes bs) : ∀ (j m : Nat) (a sd : Int) (acc : List Ef), 0 ≤ a → a + 1000 * (j : Int) ≤ 1125899906830000 → acc.length + j ≤ 1000 → j < m → (∀ e ∈ acc, e.Ok) →
    ∃ (es : List Ef) (a' sd' : Int), es.length = acc.length + j ∧ (∀ e ∈ es, e.Ok) ∧ f71_s_l08DrawOk.l0 (n + 9) m bs.length (its .u8 bs) a sd acc.length (effs (effL acc)) (j : Int) = some (bs.length, its .u8 bs, a', sd', es.length, effs (effL es)) := by
  intro j
  induction j with
  | zero =>
    intro m a sd acc _ _ _ hm hw
    obtain ⟨m, rfl⟩ : ∃ k, m = k + 1 := ⟨m - 1, by omega⟩
    rw [f71_s_l08DrawOk.l0]
    exact ⟨acc, a, sd, by omega, hw, rfl⟩
  | succ j ih =>
    intro m a sd acc h0 h1 hl hm hw
    obtain ⟨m, rfl⟩ : ∃ k, m = k + 1 := ⟨m - 1, by omega⟩
    obtain ⟨e, a1, s1, he, ha1, e1⟩ := s_effect n hb h0 (by omega) sd
    rw [f71_s_l08DrawOk.l0, decide_eq_true (show (((j + 1 : Nat) : Int) > 0) by omega), show IntKind.i64.wrap (((j + 1 : Nat) : Int) - 1) = (j : Int) by rw [wrap64] <;> omega]
    obtain ⟨es, a2, s2, q1, q2, q3⟩ := ih m a1 s1 (acc ++ [e]) (by omega) (by omega) (by simp; omega) (by omega) (by
      intro x hx; simp only [List.mem_append, List.mem_singleton] at hx
      rcases hx with hx | rfl
      · exact hw x hx
      · exact he)
    refine ⟨es, a2, s2, by simp at q1; omega, q2, ?_⟩
    have hp := push_eff (effL acc) e.eff
    have hq : effL acc ++ [e.eff] = effL (acc ++ [e]) := by simp [effL]
    rw [hq] at hp
    unfold effC at hp
    simp only [br_t, e1, bd_s, push_ok (show acc.length < 2147483648 by omega), gd_t]
    rw [hp, push_len (z := e)]
    exact q3
theorem s_chain (n : Nat) {bs : List Int} (hb : Bytes bs) (hn : 100 < n) : ∃ es : List Ef, es.length ≤ 8 ∧ (∀ e ∈ es, e.Ok) ∧ f19_s_R8Chain (n + 11) bs.length (its .u8 bs) = some (es.length, effs (effL es)) := by
  obtain ⟨k, a1, s1, hk, ha1, e1⟩ := s_pick (n + 7) hb (a := 0) (by omega) (by omega) 0 5
  obtain ⟨k, rfl⟩ := Int.eq_ofNat_of_zero_le hk.1
  have hk5 := hk.2.1 (by omega)
  obtain ⟨b, a2, s2, ha2, e2⟩ := s_one (n + 6) hb (a := a1) (by omega) (by omega) s1 24
  obtain ⟨es, a3, s3, q1, q2, q3⟩ := s_chain_loop n hb k (n + 9) a2 s2 [] (by omega) (by omega) (by simp; omega) (by omega) (by simp)
  obtain ⟨fs, a4, s4, r1, r2, r3⟩ := s_chain_loop n hb 8 (n + 9) a2 s2 [] (by omega) (by omega) (by simp) (by omega) (by simp)
  have q3 : f71_s_l08DrawOk.l0 (n + 9) (n + 9) bs.length (its .u8 bs) a2 s2 0 (reps 0 [(T.int .i64 (0 : Int)), (T.int .i64 (0 : Int)), (T.lst 0 [])]) (k : Int) = _ := q3
  have r3 : f71_s_l08DrawOk.l0 (n + 9) (n + 9) bs.length (its .u8 bs) a2 s2 0 (reps 0 [(T.int .i64 (0 : Int)), (T.int .i64 (0 : Int)), (T.lst 0 [])]) 8 = _ := r3
  rw [f19_s_R8Chain, s_from]
  simp only [bd_s]
  rw [f71_s_l08DrawOk, e1]
  cases b
  · simp only [bd_s, e2, br_f, q3]
    exact ⟨es, by simp at q1; omega, q2, rfl⟩
  · simp only [bd_s, e2, br_t, r3]
    exact ⟨fs, by simp at r1; omega, r2, rfl⟩
/-! ### states -/
def row (ls : List (List Nat)) (i : Nat) : List Nat := ls.getD i []
section
variable {ls : List (List Nat)} {i : Nat} (h : i < ls.length)
include h
theorem row_get : (ls.map rwF)[i]? = some (rwF (row ls i)) := by simp [row, List.getD, h]
theorem okR : okAt [.lst] (ls.map rwF) i = true := by simp [okAt, row_get h, isCK, rwF]
theorem nR : nAt (ls.map rwF) i = (row ls i).length := by unfold nAt; rw [row_get h]; rfl
theorem lR : lAt (ls.map rwF) i = fls .f32 (row ls i) := by unfold lAt; rw [row_get h]; rfl
theorem bleR : Nat.ble (i + 1) (ls.map rwF).length = true := by rw [Nat.ble_eq]; simp; omega
theorem row_drop : ls.drop i = row ls i :: ls.drop (i + 1) := by
  rw [List.drop_eq_getElem_cons h]
  simp [row, List.getD, h]
end
theorem set_rw {ls : List (List Nat)} {i : Nat} {r : List Nat} : setN (ls.map rwF) i [T.lst r.length (fls .f32 r)] = (ls.set i r).map rwF := by
  rw [setN_one, List.map_set]; rfl
theorem push_rw (P : List (List Nat)) (r : List Nat) : P.map rwF ++ setN (reps 1 [(T.lst 0 [])]) 0 [T.lst r.length (fls .f32 r)] = (P ++ [r]).map rwF := by
  rw [List.map_append]; rfl
theorem row_set {ls : List (List Nat)} {i j : Nat} {r : List Nat} (hj : j < ls.length) : row (ls.set i r) j = if i = j then r else row ls j := by
  unfold row
  by_cases h : i = j
  · subst h; simp [List.getD, hj]
  · simp [List.getD, h, List.getElem?_set_ne]
/-- how many numbers an effect keeps -/
def Ef.keep : Ef → Nat
  | .scale _ => 0
  | .filt .. => 2
  | .echo L _ _ => L
  | .squeeze .. => 1
  | .clip _ => 0
  | .bend => 0
  | .lim A _ _ => A + 1
def efAt (es : List Ef) (i : Nat) : Ef := es.getD i .bend
theorem effL_at {es : List Ef} {i : Nat} (h : i < es.length) : eAt (effL es) i = (efAt es i).eff := by simp [eAt, effL, efAt, List.getD, h]
theorem ef_drop {es : List Ef} {i : Nat} (h : i < es.length) : es.drop i = efAt es i :: es.drop (i + 1) := by
  rw [List.drop_eq_getElem_cons h]
  simp [efAt, List.getD, h]
theorem efAt_mem {es : List Ef} {i : Nat} (h : i < es.length) : efAt es i ∈ es := by
  have : efAt es i = es[i] := by simp [efAt, List.getD, h]
  rw [this]; exact List.getElem_mem h
theorem effL_length (es : List Ef) : (effL es).length = es.length := by simp [effL]
theorem s_counts (n : Nat) {e : Ef} (h : e.Ok) : ∃ c : Int, f133_s_l08Counts (n + 1) e.eff.kind e.eff.len = some (c, ((e.keep : Nat) : Int)) := by
  rw [f133_s_l08Counts]
  cases e with
  | scale g => exact ⟨_, rfl⟩
  | filt _ _ _ _ _ => exact ⟨_, rfl⟩
  | echo L p q => exact ⟨_, rfl⟩
  | squeeze _ _ _ _ => exact ⟨_, rfl⟩
  | clip g => exact ⟨_, rfl⟩
  | bend => exact ⟨_, rfl⟩
  | lim A k r =>
    have hA : A ≤ 4 := h.1
    have w : IntKind.i64.wrap ((1 : Int) + (A : Int)) = ((A + 1 : Nat) : Int) := by rw [wrap64] <;> omega
    refine ⟨2, ?_⟩
    have e : (Ef.lim A k r).eff.len = (A : Int) := rfl
    rw [e, w]
    rfl
theorem set_fls {k : FloatKind} {L : List Nat} {i v : Nat} : setN (fls k L) i [T.flt k v] = fls k (L.set i v) := by
  rw [setN_one]; simp [fls, List.map_set]
def newRow : Ef → List Nat
  | .lim A k r => (List.replicate (Ef.lim A k r).keep 0).set 0 1065353216
  | e => List.replicate e.keep 0
theorem new_facts (e : Ef) : ((e.eff.kind == 6) = false ∧ newRow e = List.replicate e.keep 0) ∨ ((e.eff.kind == 6) = true ∧ newRow e = (List.replicate e.keep 0).set 0 1065353216 ∧ 1 ≤ e.keep) := by
  cases e with
  | lim A k r => exact .inr ⟨rfl, rfl, by show 1 ≤ A + 1; omega⟩
  | scale g => exact .inl ⟨rfl, rfl⟩
  | filt _ _ _ _ _ => exact .inl ⟨rfl, rfl⟩
  | echo L p q => exact .inl ⟨rfl, rfl⟩
  | squeeze _ _ _ _ => exact .inl ⟨rfl, rfl⟩
  | clip g => exact .inl ⟨rfl, rfl⟩
  | bend => exact .inl ⟨rfl, rfl⟩
theorem newRow_length (e : Ef) : (newRow e).length = e.keep := by
  rcases new_facts e with ⟨-, h⟩ | ⟨-, h, -⟩ <;> rw [h] <;> simp
theorem keep_le {e : Ef} (h : e.Ok) : e.keep ≤ 5 := by
  cases e with
  | lim A k r => have hA : A ≤ 4 := h.1; show A + 1 ≤ 5; omega
  | echo L p q => exact h.2
  | scale g => show 0 ≤ 5; omega
  | filt _ _ _ _ _ => show 2 ≤ 5; omega
  | squeeze _ _ _ _ => show 1 ≤ 5; omega
  | clip g => show 0 ≤ 5; omega
  | bend => show 0 ≤ 5; omega
theorem s_new_loop (n : Nat) (es : List Ef) (hl : es.length ≤ 100) (hok : ∀ e ∈ es, e.Ok) : ∀ (j i m : Nat) (P : List (List Nat)), i + j = es.length → P.length ≤ i → j < m →
    f72_s_l08New.l0 (n + 1) m es.length (effs (effL es)) P.length (P.map rwF) (i : Int) = some ((P ++ (es.drop i).map newRow).length, (P ++ (es.drop i).map newRow).map rwF) := by
  intro j
  induction j with
  | zero =>
    intro i m P hi hP hm
    obtain ⟨m, rfl⟩ : ∃ k, m = k + 1 := ⟨m - 1, by omega⟩
    rw [f72_s_l08New.l0, nlt_dec (by omega), List.drop_eq_nil_of_le (by omega)]
    simp [br]
  | succ j ih =>
    intro i m P hi hP hm
    obtain ⟨m, rfl⟩ : ∃ k, m = k + 1 := ⟨m - 1, by omega⟩
    have h : i < es.length := by omega
    have he : i < (effL es).length := by rw [effL_length]; exact h
    have hE := hok _ (efAt_mem h)
    have hd := ef_drop h
    have hk5 := keep_le hE
    rw [f72_s_l08New.l0, lt_dec h, in_dec h, Int.toNat_natCast, okE he, kE he, gE he, effL_at h, hd]
    generalize efAt es i = e at hE hk5
    obtain ⟨c, hc⟩ := s_counts n hE
    have step := ih (i + 1) m (P ++ [newRow e]) (by omega) (by simp; omega) (by omega)
    have hg : decide ((0 : Int) ≤ ((e.keep : Nat) : Int) ∧ ((e.keep : Nat) : Int) ≤ (2147483648 : Int)) = true := decide_eq_true (by omega)
    have hpush := push_rw P (newRow e)
    rw [newRow_length] at hpush
    rcases new_facts e with ⟨h6, hr⟩ | ⟨h6, hr, hk⟩
    · rw [hr] at hpush
      simp only [br_t, br_f, Bool.and_self, gd_t, hc, bd_s, hg, Int.toNat_natCast, reps_fls, h6, push_ok (show P.length < 2147483648 by omega), wrap_succ (show i < 9223372036854775807 by omega)]
      rw [hpush, ← hr, push_len (z := newRow e), step]
      simp
    · have hg2 : decide ((0 : Int) ≤ 0 ∧ (0 : Int) < ((e.keep : Nat) : Int)) = true := decide_eq_true (by omega)
      have hb : Nat.ble 1 (fls .f32 (List.replicate e.keep 0)).length = true := by rw [Nat.ble_eq]; simp [fls]; omega
      rw [hr] at hpush
      simp only [br_t, br_f, Bool.and_self, gd_t, hc, bd_s, hg, Int.toNat_natCast, reps_fls, h6, hg2, hb, set_fls, push_ok (show P.length < 2147483648 by omega), wrap_succ (show i < 9223372036854775807 by omega)]
      rw [hpush, ← hr, push_len (z := newRow e), step]
      simp
def Sok (es : List Ef) (ls : List (List Nat)) : Prop := ls.length = es.length ∧ ∀ i, i < ls.length → (row ls i).length = (efAt es i).keep ∧ (∀ y ∈ row ls i, W32 y)
theorem Sok.set {es : List Ef} {ls : List (List Nat)} (h : Sok es ls) {i : Nat} {r : List Nat} (hi : i < ls.length) (hr : r.length = (efAt es i).keep) (hw : ∀ y ∈ r, W32 y) : Sok es (ls.set i r) := by
  refine ⟨by rw [List.length_set]; exact h.1, fun j hj => ?_⟩
  rw [List.length_set] at hj
  rw [row_set hj]
  by_cases e : i = j
  · subst e; rw [if_pos rfl]; exact ⟨hr, hw⟩
  · rw [if_neg e]; exact h.2 j hj
theorem new_ok (es : List Ef) : Sok es (es.map newRow) := by
  refine ⟨by simp, fun i hi => ?_⟩
  have h : i < es.length := by simpa using hi
  have e : row (es.map newRow) i = newRow (efAt es i) := by simp [row, efAt, List.getD, h]
  rw [e]
  refine ⟨newRow_length _, fun y hy => ?_⟩
  rcases new_facts (efAt es i) with ⟨-, hr⟩ | ⟨-, hr, -⟩
  · rw [hr] at hy
    obtain ⟨-, rfl⟩ := List.mem_replicate.1 hy
    exact w32_zero
  · rw [hr] at hy
    rcases List.mem_or_eq_of_mem_set hy with h' | rfl
    · obtain ⟨-, rfl⟩ := List.mem_replicate.1 h'
      exact w32_zero
    · exact w32_one
theorem s_state_loop (n : Nat) {bs : List Int} (hb : Bytes bs) (hn : 100 < n) (es : List Ef) (hl : es.length ≤ 100) (hok : ∀ e ∈ es, e.Ok) : ∀ (j i m : Nat) (a sd : Int) (ls : List (List Nat)), i + j = es.length → 0 ≤ a → a + 1000 * (j : Int) ≤ 1125899906830000 → Sok es ls → j < m →
    ∃ ls', Sok es ls' ∧ f20_s_R8State.l0 (n + 6) m bs.length (its .u8 bs) a sd es.length (ls.map rwF) (i : Int) = some (es.length, ls'.map rwF) := by
  intro j
  induction j with
  | zero =>
    intro i m a sd ls hi _ _ hs hm
    obtain ⟨m, rfl⟩ : ∃ k, m = k + 1 := ⟨m - 1, by omega⟩
    refine ⟨ls, hs, ?_⟩
    rw [f20_s_R8State.l0, nlt_dec (by omega)]; rfl
  | succ j ih =>
    intro i m a sd ls hi h0 h1 hs hm
    obtain ⟨m, rfl⟩ : ∃ k, m = k + 1 := ⟨m - 1, by omega⟩
    have h : i < es.length := by omega
    have hil : i < ls.length := by rw [hs.1]; exact h
    have hk := keep_le (hok _ (efAt_mem h))
    obtain ⟨hrl, -⟩ := hs.2 i hil
    obtain ⟨ys, a1, s1, hy, hyw, ha, e1⟩ := s_floats n hb h0 (row ls i).length (by omega) (by omega) (by omega) sd
    obtain ⟨ls', q1, q2⟩ := ih (i + 1) m a1 s1 (ls.set i ys) (by omega) (by omega) (by omega) (hs.set hil (by omega) hyw) (by omega)
    refine ⟨ls', q1, ?_⟩
    rw [f20_s_R8State.l0, lt_dec h, in_dec h, Int.toNat_natCast, okR hil, nR hil, e1]
    simp only [br_t, gd_t, bd_s, bleR hil, set_rw, wrap_succ (show i < 9223372036854775807 by omega)]
    exact q2
theorem s_state (n : Nat) {bs : List Int} (hb : Bytes bs) (hn : 200 < n) (es : List Ef) (hl : es.length ≤ 100) (hok : ∀ e ∈ es, e.Ok) : ∃ ls, Sok es ls ∧ f20_s_R8State (n + 7) bs.length (its .u8 bs) es.length (effs (effL es)) = some (ls.length, ls.map rwF) := by
  have e1 := s_new_loop (n + 4) es hl hok es.length 0 (n + 5) [] (by omega) (by simp) (by omega)
  simp only [List.drop_zero, List.nil_append] at e1
  rw [List.length_map] at e1
  have e1 : f72_s_l08New.l0 (n + 5) (n + 5) es.length (effs (effL es)) 0 (reps 0 [(T.lst 0 [])]) 0 = _ := e1
  obtain ⟨ls, q1, q2⟩ := s_state_loop n hb (by omega) es hl hok es.length 0 (n + 6) 0 0 (es.map newRow) (by omega) (by omega) (by omega) (new_ok es) (by omega)
  have q2 : f20_s_R8State.l0 (n + 6) (n + 6) bs.length (its .u8 bs) 0 0 es.length ((es.map newRow).map rwF) 0 = _ := q2
  refine ⟨ls, q1, ?_⟩
  rw [f20_s_R8State, s_from]
  simp only [bd_s]
  rw [f72_s_l08New, e1]
  simp only [bd_s, q2, q1.1]
/-! ### valid chains -/
theorem i_has (n : Nat) (a b : Int) (c : Nat) (l : List T) (lo hi k : Int) (h : lo ≤ b ∧ b ≤ hi) (hk : (c : Int) = k) : f136_i_Effecthas (n + 2) a b c l lo hi k = some true := by
  rw [f136_i_Effecthas, i_in, decide_eq_true h]
  simp only [bd_s, br_t, hk, beq_self_eq_true]
theorem lim_tab : ∀ k : Nat, k < 16 → (feq .f32 (fsub .f32 (limW k) (limW k)) 0 && fgt .f32 (limW k) 0) = true := by decide +kernel
theorem i_limit (n : Nat) {k : Nat} (h : k < 16) : f137_i_isLimit (n + 2) (limW k) = some true := by
  have := lim_tab k h
  simp only [Bool.and_eq_true] at this
  rw [f137_i_isLimit, f174_i_IsFinite, this.1, this.2]; rfl
theorem i_valideffect (n : Nat) {e : Ef} (h : e.Ok) : f76_i_ValidEffect (n + 4) e.eff.kind e.eff.len e.eff.nums.length (fls .f32 e.eff.nums) = some true := by
  rw [f76_i_ValidEffect]
  cases e with
  | scale g =>
    have := i_has (n + 1) 0 0 1 (fls .f32 [g]) 0 0 1 (by omega) (by omega)
    simp only [Ef.eff, beq_self_eq_true, br_t, List.length_cons, List.length_nil, Nat.zero_add, this, bd_s]
  | filt a b c d f =>
    have := i_has (n + 1) 1 0 5 (fls .f32 [a, b, c, d, f]) 0 0 5 (by omega) (by omega)
    simp only [Ef.eff, show ((1 : Int) == 0) = false from rfl, show ((1 : Int) == 4) = false from rfl, beq_self_eq_true, br_t, br_f, List.length_cons, List.length_nil, Nat.zero_add, Nat.reduceAdd, this, bd_s]
  | echo L p q =>
    have hL : 1 ≤ L ∧ L ≤ 5 := h
    have := i_has (n + 1) 2 (L : Int) 2 (fls .f32 [p, q]) 1 32 2 (by omega) (by omega)
    simp only [Ef.eff, show ((2 : Int) == 0) = false from rfl, show ((2 : Int) == 4) = false from rfl, show ((2 : Int) == 1) = false from rfl, beq_self_eq_true, br_t, br_f, List.length_cons, List.length_nil, Nat.zero_add, Nat.reduceAdd, this, bd_s]
  | squeeze a b c d =>
    have := i_has (n + 1) 3 0 4 (fls .f32 [a, b, c, d]) 0 0 4 (by omega) (by omega)
    simp only [Ef.eff, show ((3 : Int) == 0) = false from rfl, show ((3 : Int) == 4) = false from rfl, show ((3 : Int) == 1) = false from rfl, show ((3 : Int) == 2) = false from rfl, beq_self_eq_true, br_t, br_f, List.length_cons, List.length_nil, Nat.zero_add, Nat.reduceAdd, this, bd_s]
  | clip g =>
    have := i_has (n + 1) 4 0 1 (fls .f32 [g]) 0 0 1 (by omega) (by omega)
    simp only [Ef.eff, show ((4 : Int) == 0) = false from rfl, beq_self_eq_true, br_t, br_f, List.length_cons, List.length_nil, Nat.zero_add, this, bd_s]
  | bend =>
    have := i_has (n + 1) 5 0 0 (fls .f32 []) 0 0 0 (by omega) (by omega)
    simp only [Ef.eff, show ((5 : Int) == 0) = false from rfl, show ((5 : Int) == 4) = false from rfl, show ((5 : Int) == 1) = false from rfl, show ((5 : Int) == 2) = false from rfl, show ((5 : Int) == 3) = false from rfl, beq_self_eq_true, br_t, br_f, List.length_nil, this, bd_s]
  | lim A k r =>
    have hA : A ≤ 4 ∧ k < 16 := h
    have := i_has (n + 1) 6 (A : Int) 2 (fls .f32 [limW k, r]) 0 32 2 (by omega) (by omega)
    have g1 : decide ((0 : Int) ≤ 0 ∧ (0 : Int) < ((2 : Nat) : Int)) = true := rfl
    have g2 : okAt [.flt .f32] (fls .f32 [limW k, r]) 0 = true := rfl
    have g3 : fAt (fls .f32 [limW k, r]) 0 = limW k := rfl
    simp only [Ef.eff, show ((6 : Int) == 0) = false from rfl, show ((6 : Int) == 4) = false from rfl, show ((6 : Int) == 1) = false from rfl, show ((6 : Int) == 2) = false from rfl, show ((6 : Int) == 3) = false from rfl, show ((6 : Int) == 5) = false from rfl, beq_self_eq_true, br_t, br_f, List.length_cons, List.length_nil, Nat.zero_add, Nat.reduceAdd, this, bd_s, g1, g2, g3, Bool.and_self, gd_t, i_limit (n + 1) hA.2]
theorem i_valid_loop (n : Nat) (N : Nat) (cs : List T) (es : List Ef) (hl : es.length ≤ 100) (hok : ∀ e ∈ es, e.Ok) : ∀ (j i m : Nat), i + j = es.length → j < m →
    f23_i_ValidChain.l0 (n + 4) m N cs es.length (effs (effL es)) (es.length : Int) (i : Int) = some (Sum.inr ()) := by
  intro j
  induction j with
  | zero =>
    intro i m hi hm
    obtain ⟨m, rfl⟩ : ∃ k, m = k + 1 := ⟨m - 1, by omega⟩
    rw [f23_i_ValidChain.l0, nlt_dec (by omega)]; rfl
  | succ j ih =>
    intro i m hi hm
    obtain ⟨m, rfl⟩ : ∃ k, m = k + 1 := ⟨m - 1, by omega⟩
    have h : i < es.length := by omega
    have he : i < (effL es).length := by rw [effL_length]; exact h
    have hv := i_valideffect n (hok _ (efAt_mem h))
    rw [f23_i_ValidChain.l0, lt_dec h, in_dec h, Int.toNat_natCast, okE he]
    simp only [br_t, Bool.and_self, gd_t, kE he, gE he, nE he, lE he, effL_at h, hv, bd_s, Bool.not_true, br_f, wrap_succ (show i < 9223372036854775807 by omega)]
    exact ih (i + 1) m (by omega) (by omega)
theorem i_validchain (n : Nat) (es : List Ef) (hl : es.length ≤ 8) (hok : ∀ e ∈ es, e.Ok) (hn : 100 < n) : f23_i_ValidChain (n + 5) es.length (effs (effL es)) = some true := by
  have e := i_valid_loop n es.length (effs (effL es)) es (by omega) hok es.length 0 (n + 4) (by omega) (by omega)
  have e : f23_i_ValidChain.l0 (n + 4) (n + 4) es.length (effs (effL es)) es.length (effs (effL es)) (es.length : Int) 0 = _ := e
  rw [f23_i_ValidChain, decide_eq_false (by omega)]
  simp only [br_f, e, bd_s, sm_r]
theorem i_effectstate (n : Nat) {e : Ef} (h : e.Ok) : ∃ l, f77_i_Effectstate (n + 2) e.eff.kind e.eff.len e.eff.nums.length (fls .f32 e.eff.nums) = some (e.keep, l) := by
  rw [f77_i_Effectstate]
  cases e with
  | scale g => exact ⟨_, rfl⟩
  | filt a b c d f => exact ⟨_, rfl⟩
  | echo L p q =>
    have hL : 1 ≤ L ∧ L ≤ 5 := h
    have hz := i_zeroed n L (by omega)
    simp only [Ef.eff, show ((2 : Int) == 1) = false from rfl, beq_self_eq_true, br_t, br_f, hz, bd_s]
    exact ⟨_, rfl⟩
  | squeeze a b c d => exact ⟨_, rfl⟩
  | clip g => exact ⟨_, rfl⟩
  | bend => exact ⟨_, rfl⟩
  | lim A k r =>
    have hA : A ≤ 4 ∧ k < 16 := h
    have hz := i_zeroed n A (by omega)
    have hb : Nat.ble (1 + A) 2147483648 = true := by rw [Nat.ble_eq]; omega
    simp only [Ef.eff, show ((6 : Int) == 1) = false from rfl, show ((6 : Int) == 2) = false from rfl, show ((6 : Int) == 3) = false from rfl, beq_self_eq_true, br_t, br_f, hz, bd_s, hb, gd_t]
    rw [Nat.add_comm 1 A]
    exact ⟨_, rfl⟩
theorem i_isstate_loop (n : Nat) (N N2 : Nat) (cs : List T) (es : List Ef) (hl : es.length ≤ 100) (hok : ∀ e ∈ es, e.Ok) (ls : List (List Nat)) (hs : Sok es ls) : ∀ (j i m : Nat), i + j = es.length → j < m →
    f24_i_IsState.l0 (n + 2) m N cs es.length (ls.map rwF) es.length (effs (effL es)) (es.length : Int) (i : Int) = some (Sum.inr ()) := by
  intro j
  induction j with
  | zero =>
    intro i m hi hm
    obtain ⟨m, rfl⟩ : ∃ k, m = k + 1 := ⟨m - 1, by omega⟩
    rw [f24_i_IsState.l0, nlt_dec (by omega)]; rfl
  | succ j ih =>
    intro i m hi hm
    obtain ⟨m, rfl⟩ : ∃ k, m = k + 1 := ⟨m - 1, by omega⟩
    have h : i < es.length := by omega
    have he : i < (effL es).length := by rw [effL_length]; exact h
    have hil : i < ls.length := by rw [hs.1]; exact h
    obtain ⟨l, hv⟩ := i_effectstate n (hok _ (efAt_mem h))
    rw [f24_i_IsState.l0, lt_dec h, in_dec h, Int.toNat_natCast, okE he, okR hil]
    simp only [br_t, Bool.and_self, gd_t, kE he, gE he, nE he, lE he, effL_at h, hv, bd_s, nR hil, (hs.2 i hil).1, bne_self_eq_false, br_f, wrap_succ (show i < 9223372036854775807 by omega)]
    exact ih (i + 1) m (by omega) (by omega)
theorem i_isstate (n : Nat) (es : List Ef) (hl : es.length ≤ 8) (hok : ∀ e ∈ es, e.Ok) (ls : List (List Nat)) (hs : Sok es ls) (hn : 200 < n) : f24_i_IsState (n + 6) es.length (effs (effL es)) es.length (ls.map rwF) = some true := by
  have e := i_isstate_loop (n + 3) es.length 0 (effs (effL es)) es (by omega) hok ls hs es.length 0 (n + 5) (by omega) (by omega)
  have e : f24_i_IsState.l0 (n + 5) (n + 5) es.length (effs (effL es)) es.length (ls.map rwF) es.length (effs (effL es)) (es.length : Int) 0 = _ := e
  rw [f24_i_IsState, i_validchain n es hl hok (by omega)]
  simp only [bd_s, Bool.not_true, br_f, bne_self_eq_false, e, sm_r]
/-! ### effects that run -/
def bendM (x : Nat) : Nat := if fge .f32 x 1065353216 = true then 1065353216 else if fle .f32 x 3212836864 = true then 3212836864 else fmul .f32 x (fsub .f32 1069547520 (fmul .f32 1056964608 (fmul .f32 x x)))
theorem i_bend (n x : Nat) : f172_i_BendSample (n + 1) x = some (bendM x) := by
  rw [f172_i_BendSample]
  unfold bendM
  cases fge .f32 x 1065353216
  · cases fle .f32 x 3212836864 <;> rfl
  · rfl
theorem i_bends_loop (n : Nat) (N : Nat) (cs : List T) : ∀ (zs p acc : List Nat) (m : Nat), acc.length + zs.length < 1048576 → p.length + zs.length < 1048576 → zs.length < m →
    f135_i_Effectrun.l1 (n + 1) m N cs acc.length (fls .f32 acc) (p ++ zs).length (fls .f32 (p ++ zs)) ((p ++ zs).length : Int) (p.length : Int) = some ((acc ++ zs.map bendM).length, fls .f32 (acc ++ zs.map bendM)) := by
  intro zs
  induction zs with
  | nil =>
    intro p acc m _ _ hm
    obtain ⟨m, rfl⟩ : ∃ k, m = k + 1 := ⟨m - 1, by simp at hm; omega⟩
    rw [f135_i_Effectrun.l1, lt_end]; simp [br]
  | cons z zs ih =>
    intro p acc m ha hp hm
    obtain ⟨m, rfl⟩ : ∃ k, m = k + 1 := ⟨m - 1, by simp at hm; omega⟩
    have := ih (p ++ [z]) (acc ++ [bendM z]) m (by simp at ha ⊢; omega) (by simp at hp ⊢; omega) (by simp at hm; omega)
    rw [f135_i_Effectrun.l1, lt_mid, in_mid, toNat_len, okAt_mid, fAt_mid, wrap_len (z := z) (show p.length < 4611686018427387904 by simp at hp; omega)]
    simp only [br_t, gd_t, Bool.and_self, i_bend, bd_s, push_ok (show acc.length < 2147483648 by simp at ha; omega), push_fls]
    simpa using this
def echoStep (p q : Nat) (w : List Nat) (x : Nat) : Nat × List Nat := (fadd .f32 x (fmul .f32 q (headM w)), tookM w (flushM (fadd .f32 x (fmul .f32 p (headM w)))))
theorem i_echo_loop (n : Nat) (N : Nat) (cs : List T) (pp qq : Nat) : ∀ (zs p acc w : List Nat) (m : Nat), 0 < w.length → w.length ≤ 64 → acc.length + zs.length < 1048576 → p.length + zs.length < 1048576 → zs.length < m →
    f135_i_Effectrun.l0 (n + 3) m N cs 2 (fls .f32 [pp, qq]) w.length (fls .f32 w) acc.length (fls .f32 acc) (p ++ zs).length (fls .f32 (p ++ zs)) ((p ++ zs).length : Int) (p.length : Int) =
      some ((scan (echoStep pp qq) w zs).2.length, fls .f32 (scan (echoStep pp qq) w zs).2, (acc ++ (scan (echoStep pp qq) w zs).1).length, fls .f32 (acc ++ (scan (echoStep pp qq) w zs).1)) := by
  intro zs
  induction zs with
  | nil =>
    intro p acc w m _ _ _ _ hm
    obtain ⟨m, rfl⟩ : ∃ k, m = k + 1 := ⟨m - 1, by simp at hm; omega⟩
    rw [f135_i_Effectrun.l0, lt_end]; simp [br, scan]
  | cons z zs ih =>
    intro p acc w m h0 h1 ha hp hm
    obtain ⟨m, rfl⟩ : ∃ k, m = k + 1 := ⟨m - 1, by simp at hm; omega⟩
    have hlen : (echoStep pp qq w z).2.length = w.length := took_length h0
    have step := ih (p ++ [z]) (acc ++ [(echoStep pp qq w z).1]) (echoStep pp qq w z).2 m (by omega) (by omega) (by simp at ha ⊢; omega) (by simp at hp ⊢; omega) (by simp at hm; omega)
    have g1 : decide ((0 : Int) ≤ 0 ∧ (0 : Int) < (w.length : Int)) = true := decide_eq_true (by omega)
    have g2 : okAt [.flt .f32] (fls .f32 w) 0 = true := okAt_fls h0
    have g3 : fAt (fls .f32 w) 0 = headM w := fAt_fls ..
    have g4 : decide ((0 : Int) ≤ 1 ∧ (1 : Int) < ((2 : Nat) : Int)) = true := rfl
    have g5 : decide ((0 : Int) ≤ 0 ∧ (0 : Int) < ((2 : Nat) : Int)) = true := rfl
    have g6 : okAt [.flt .f32] (fls .f32 [pp, qq]) 0 = true := rfl
    have g7 : okAt [.flt .f32] (fls .f32 [pp, qq]) 1 = true := rfl
    have g8 : fAt (fls .f32 [pp, qq]) 0 = pp := rfl
    have g9 : fAt (fls .f32 [pp, qq]) 1 = qq := rfl
    have tk : ∀ y, f168_i_take (n + 3) w.length (fls .f32 w) y = some ((tookM w y).length, fls .f32 (tookM w y)) := fun y => by
      obtain ⟨v, vs, rfl⟩ : ∃ v vs, w = v :: vs := by cases w with
        | nil => simp at h0
        | cons v vs => exact ⟨v, vs, rfl⟩
      exact i_taken (n + 1) v vs y (by simp at h1; omega)
    rw [f135_i_Effectrun.l0, lt_mid, in_mid, toNat_len, okAt_mid, fAt_mid]
    have w' := wrap_len (z := z) (p := p) (show p.length < 4611686018427387904 by simp at hp; omega)
    simp only [br_t, gd_t, Bool.and_self, g1, g2, g3, g4, g5, g6, g7, g8, g9, push_ok (show acc.length < 2147483648 by simp at ha; omega), push_fls, i_flush (n + 1) (w32_fadd _ _), bd_s, tk, w']
    rw [push_len (z := (echoStep pp qq w z).1)]
    rw [List.append_assoc, List.append_assoc] at step
    exact step
/-! ### a step of an effect on its row -/
section
variable {σ τ α β : Type}
theorem scan_sim (f : σ → α → β × σ) (g : τ → α → β × τ) (h : τ → σ) (P : τ → Prop) (hs : ∀ t x, P t → f (h t) x = ((g t x).1, h (g t x).2) ∧ P (g t x).2) : ∀ (xs : List α) (t : τ), P t → scan f (h t) xs = ((scan g t xs).1, h (scan g t xs).2) ∧ P (scan g t xs).2
  | [], t, ht => ⟨rfl, ht⟩
  | x :: xs, t, ht => by
    obtain ⟨e, hp⟩ := hs t x ht
    obtain ⟨e2, hp2⟩ := scan_sim f g h P hs xs _ hp
    refine ⟨?_, hp2⟩
    simp only [scan, e, e2]
theorem scan_pure (f : α → β) : ∀ (xs : List α), scan (fun (_ : List τ) x => (f x, ([] : List τ))) [] xs = (xs.map f, [])
  | [] => rfl
  | x :: xs => by simp only [scan, scan_pure f xs, List.map_cons]
theorem scan_twin (f : σ → α × α → β × σ) : ∀ (xs : List α) (s : σ), scan f s (xs.zip xs) = scan (fun s x => f s (x, x)) s xs
  | [], s => rfl
  | x :: xs, s => by simp only [List.zip_cons_cons, scan, scan_twin f xs]
end
def Ef.step : Ef → List Nat → Nat → Nat × List Nat
  | .scale g, _, x => (fmul .f32 x g, [])
  | .filt a b c d e, w, x => ((fstep (a, b, c, d, e) 1 true (w.getD 0 0, w.getD 1 0, 0, 0) x).1, [(fstep (a, b, c, d, e) 1 true (w.getD 0 0, w.getD 1 0, 0, 0) x).2.1, (fstep (a, b, c, d, e) 1 true (w.getD 0 0, w.getD 1 0, 0, 0) x).2.2.1])
  | .echo L p q, w, x => echoStep p q w x
  | .squeeze a r t q, w, x => ((duckStep a r t q (w.getD 0 0) (x, x)).1, [(duckStep a r t q (w.getD 0 0) (x, x)).2])
  | .clip g, _, x => (clipM g x, [])
  | .bend, _, x => (bendM x, [])
  | .lim A k r, w, x => ((limStep (limW k) r (w.getD 0 0, w.drop 1) x).1, (limStep (limW k) r (w.getD 0 0, w.drop 1) x).2.1 :: (limStep (limW k) r (w.getD 0 0, w.drop 1) x).2.2)
def Fit (e : Ef) (w : List Nat) : Prop := w.length = e.keep ∧ AllW w
theorem w32_bend {x : Nat} : W32 (bendM x) := by
  unfold bendM
  split
  · exact ⟨by decide, by decide⟩
  · split
    · exact ⟨by decide, by decide⟩
    · exact w32_fmul _ _
theorem w32_at {w : List Nat} (h : AllW w) (i : Nat) : W32 (w.getD i 0) := by
  unfold List.getD
  cases hi : w[i]? with
  | none => exact w32_zero
  | some v => exact h v (List.mem_of_getElem? hi)
theorem w32_limW (k : Nat) : W32 (limW k) := w32_fdiv _ _
theorem step_fit {e : Ef} (he : e.Ok) {w : List Nat} (h : Fit e w) {x : Nat} (hx : W32 x) : W32 (e.step w x).1 ∧ Fit e (e.step w x).2 := by
  obtain ⟨hl, hw⟩ := h
  cases e with
  | scale g => exact ⟨w32_fmul _ _, rfl, fun y hy => by cases hy⟩
  | filt a b c d e =>
    obtain ⟨q1, q2, q3, q4, q5⟩ := fstep_w32 (f := (a, b, c, d, e)) (form := 1) (b := true) (m := (w.getD 0 0, w.getD 1 0, 0, 0)) (x := x) ⟨w32_at hw 0, w32_at hw 1, w32_zero, w32_zero⟩ hx
    refine ⟨q1, rfl, fun y hy => ?_⟩
    simp only [Ef.step, List.mem_cons, List.not_mem_nil, or_false] at hy
    rcases hy with rfl | rfl
    · exact q2
    · exact q3
  | echo L p q =>
    have h1 : 1 ≤ L ∧ L ≤ 5 := he
    have hl : w.length = L := hl
    exact ⟨w32_fadd _ _, (took_length (by omega)).trans hl, allW_took hw (w32_flush (w32_fadd _ _))⟩
  | squeeze a r t q =>
    refine ⟨w32_fmul _ _, rfl, fun y hy => ?_⟩
    simp only [Ef.step, List.mem_cons, List.not_mem_nil, or_false] at hy
    subst hy; exact w32_level ..
  | clip g => exact ⟨w32_clip he hx, rfl, fun y hy => by cases hy⟩
  | bend => exact ⟨w32_bend, rfl, fun y hy => by cases hy⟩
  | lim A k r =>
    have hl : w.length = A + 1 := hl
    refine ⟨w32_clip (w32_limW k) (w32_fmul _ _), ?_, fun y hy => ?_⟩
    · show (limStep (limW k) r (w.getD 0 0, w.drop 1) x).2.2.length + 1 = A + 1
      simp [limStep]; omega
    · simp only [Ef.step, List.mem_cons] at hy
      rcases hy with rfl | hy
      · exact w32_limG w32_limT (w32_fadd _ _)
      · have := List.mem_of_mem_drop hy
        simp only [List.mem_append, List.mem_singleton] at this
        rcases this with h | rfl
        · exact hw y (List.mem_of_mem_drop h)
        · exact hx
theorem run_fit {e : Ef} (he : e.Ok) (xs : List Nat) {w : List Nat} (h : Fit e w) (hx : AllW xs) : AllW (scan e.step w xs).1 ∧ Fit e (scan e.step w xs).2 :=
  scan_inv (f := e.step) (P := Fit e) (Q := W32) (S := W32) (fun _ _ hs hq => step_fit he hs hq) xs w h hx
theorem sim_filt (a b c d e : Nat) (xs w : List Nat) (hl : w.length = 2) : ∃ u v, (scan (Ef.filt a b c d e).step w xs).2 = [u, v] ∧ scan (fstep (a, b, c, d, e) 1 true) (w.getD 0 0, w.getD 1 0, 0, 0) xs = ((scan (Ef.filt a b c d e).step w xs).1, (u, v, 0, 0)) := by
  obtain ⟨h1, h2⟩ := scan_sim (fstep (a, b, c, d, e) 1 true) (Ef.filt a b c d e).step (fun w => (w.getD 0 0, w.getD 1 0, 0, 0)) (fun w => w.length = 2) (fun t x ht => ⟨by
    have z : fl? true 0 = 0 := by decide
    simp only [fstep, Ef.step, List.getD_cons_zero, List.getD_cons_succ, z, if_neg (show ¬ (1 : Int) = 0 by decide), if_pos], rfl⟩) xs w hl
  generalize (scan (Ef.filt a b c d e).step w xs) = r at h1 h2
  obtain ⟨ys, r⟩ := r
  match r, h2 with
  | [u, v], _ => exact ⟨u, v, rfl, h1⟩
theorem sim_squeeze (a r t q : Nat) (xs w : List Nat) (hl : w.length = 1) : ∃ u, (scan (Ef.squeeze a r t q).step w xs).2 = [u] ∧ scan (duckStep a r t q) (w.getD 0 0) (xs.zip xs) = ((scan (Ef.squeeze a r t q).step w xs).1, u) := by
  rw [scan_twin]
  obtain ⟨h1, h2⟩ := scan_sim (fun s x => duckStep a r t q s (x, x)) (Ef.squeeze a r t q).step (fun w => w.getD 0 0) (fun w => w.length = 1) (fun t x ht => ⟨rfl, rfl⟩) xs w hl
  generalize (scan (Ef.squeeze a r t q).step w xs) = s at h1 h2
  obtain ⟨ys, s⟩ := s
  match s, h2 with
  | [u], _ => exact ⟨u, rfl, h1⟩
theorem sim_lim (A k r : Nat) (xs w : List Nat) (hl : w.length = A + 1) : ∃ g v, (scan (Ef.lim A k r).step w xs).2 = g :: v ∧ scan (limStep (limW k) r) (w.getD 0 0, w.drop 1) xs = ((scan (Ef.lim A k r).step w xs).1, (g, v)) := by
  obtain ⟨h1, h2⟩ := scan_sim (limStep (limW k) r) (Ef.lim A k r).step (fun w => (w.getD 0 0, w.drop 1)) (fun w => 0 < w.length) (fun t x ht => ⟨rfl, by simp [Ef.step]⟩) xs w (by omega)
  generalize (scan (Ef.lim A k r).step w xs) = s at h1 h2
  obtain ⟨ys, s⟩ := s
  match s, h2 with
  | g :: v, _ => exact ⟨g, v, rfl, h1⟩
/-! ### chains -/
def chainGo : List Ef → List (List Nat) → List Nat → List Nat × List (List Nat)
  | e :: es, w :: ls, xs => ((chainGo es ls (scan e.step w xs).1).1, (scan e.step w xs).2 :: (chainGo es ls (scan e.step w xs).1).2)
  | _, _, xs => (xs, [])
def Fits : List Ef → List (List Nat) → Prop
  | e :: es, w :: ls => Fit e w ∧ Fits es ls
  | [], [] => True
  | _, _ => False
theorem Fits.len : ∀ {es : List Ef} {ls : List (List Nat)}, Fits es ls → ls.length = es.length
  | [], [], _ => rfl
  | _ :: _, _ :: _, h => by simp [h.2.len]
  | [], _ :: _, h => h.elim
  | _ :: _, [], h => h.elim
theorem Fits.at : ∀ {es : List Ef} {ls : List (List Nat)}, Fits es ls → ∀ i, i < es.length → Fit (efAt es i) (row ls i)
  | [], [], _, i, hi => by simp at hi
  | _ :: _, _ :: _, h, 0, _ => h.1
  | _ :: _, _ :: _, h, i + 1, hi => h.2.at i (by simpa using hi)
  | [], _ :: _, h, _, _ => h.elim
  | _ :: _, [], h, _, _ => h.elim
theorem Fits.sok {es : List Ef} {ls : List (List Nat)} (h : Fits es ls) : Sok es ls := ⟨h.len, fun i hi => h.at i (by rw [← h.len]; exact hi)⟩
theorem Sok.fits : ∀ {es : List Ef} {ls : List (List Nat)}, Sok es ls → Fits es ls
  | [], [], _ => trivial
  | e :: es, w :: ls, h => ⟨h.2 0 (by simp), Sok.fits ⟨by have := h.1; simpa using this, fun i hi => h.2 (i + 1) (by simpa using hi)⟩⟩
  | [], _ :: _, h => by have := h.1; simp at this
  | _ :: _, [], h => by have := h.1; simp at this
theorem chain_fit : ∀ (es : List Ef) (ls : List (List Nat)) (xs : List Nat), (∀ e ∈ es, e.Ok) → Fits es ls → AllW xs → AllW (chainGo es ls xs).1 ∧ Fits es (chainGo es ls xs).2 ∧ (chainGo es ls xs).1.length = xs.length
  | [], [], xs, _, _, hx => ⟨hx, trivial, rfl⟩
  | e :: es, w :: ls, xs, ho, h, hx => by
    obtain ⟨a, b⟩ := run_fit (ho e (by simp)) xs h.1 hx
    obtain ⟨c, d, f⟩ := chain_fit es ls _ (fun e he => ho e (by simp [he])) h.2 a
    exact ⟨c, ⟨b, d⟩, f.trans (scan_length _ _ _)⟩
  | [], _ :: _, _, _, h, _ => h.elim
  | _ :: _, [], _, _, h, _ => h.elim
theorem chain_append : ∀ (es : List Ef) (ls : List (List Nat)) (xs ys : List Nat), Fits es ls → chainGo es ls (xs ++ ys) = ((chainGo es ls xs).1 ++ (chainGo es (chainGo es ls xs).2 ys).1, (chainGo es (chainGo es ls xs).2 ys).2)
  | [], [], xs, ys, _ => rfl
  | e :: es, w :: ls, xs, ys, h => by
    simp only [chainGo, scan_append]
    rw [chain_append es ls _ _ h.2]
  | [], _ :: _, _, _, h => h.elim
  | _ :: _, [], _, _, h => h.elim
theorem drop_one {w : List Nat} : ((fls .f32 w).drop 1).take (w.length - 1) = fls .f32 (w.drop 1) := by
  rw [fls_drop, fls_take, List.take_of_length_le (by simp)]
theorem i_effectrun (n : Nat) {e : Ef} (he : e.Ok) {w xs : List Nat} (hf : Fit e w) (hx : AllW xs) (hl : xs.length ≤ 256) (hn : 600 < n) :
    f135_i_Effectrun (n + 102) e.eff.kind e.eff.len e.eff.nums.length (fls .f32 e.eff.nums) w.length (fls .f32 w) xs.length (fls .f32 xs) =
      some ((scan e.step w xs).1.length, fls .f32 (scan e.step w xs).1, (scan e.step w xs).2.length, fls .f32 (scan e.step w xs).2) := by
  obtain ⟨hwl, hww⟩ := hf
  rw [f135_i_Effectrun]
  cases e with
  | scale g =>
    obtain rfl : w = [] := List.length_eq_zero_iff.1 hwl
    have e1 := i_scaledq (n + 100) xs g (by omega) (by omega)
    have e1 : f167_i_scaled (n + 101) xs.length (fls .f32 xs) g = _ := e1
    have g1 : decide ((0 : Int) ≤ 0 ∧ (0 : Int) < (([g].length : Nat) : Int)) = true := rfl
    have g2 : okAt [.flt .f32] (fls .f32 [g]) 0 = true := rfl
    have g3 : fAt (fls .f32 [g]) 0 = g := rfl
    have hs : scan (Ef.scale g).step [] xs = (xs.map fun z => fmul .f32 z g, []) := scan_pure (fun z => fmul .f32 z g) xs
    simp only [Ef.eff, beq_self_eq_true, br_t, g1, g2, g3, Bool.and_self, gd_t, e1, bd_s, hs]
    rfl
  | filt a b c d f =>
    have hw2 : w.length = 2 := hwl
    obtain ⟨u, v, hs2, hs⟩ := sim_filt a b c d f xs w hw2
    have e1 := i_frun (n + 96) (a, b, c, d, f) 1 true (w.getD 0 0, w.getD 1 0, 0, 0) xs hx ⟨w32_at hww 0, w32_at hww 1, w32_zero, w32_zero⟩ (by omega) (by omega)
    rw [hs] at e1
    have e1 : f96_i_Filterrun (n + 101) a b c d f 1 true (w.getD 0 0) (w.getD 1 0) 0 0 xs.length (fls .f32 xs) = _ := e1
    have g (i : Nat) (hi : i < 5) : okAt [.flt .f32] (fls .f32 [a, b, c, d, f]) i = true := okAt_fls (by simpa using hi)
    have k0 : fAt (fls .f32 [a, b, c, d, f]) 0 = a := rfl
    have k1 : fAt (fls .f32 [a, b, c, d, f]) 1 = b := rfl
    have k2 : fAt (fls .f32 [a, b, c, d, f]) 2 = c := rfl
    have k3 : fAt (fls .f32 [a, b, c, d, f]) 3 = d := rfl
    have k4 : fAt (fls .f32 [a, b, c, d, f]) 4 = f := rfl
    have d0 : decide ((0 : Int) ≤ 0 ∧ (0 : Int) < (([a, b, c, d, f].length : Nat) : Int)) = true := rfl
    have d1 : decide ((0 : Int) ≤ 1 ∧ (1 : Int) < (([a, b, c, d, f].length : Nat) : Int)) = true := rfl
    have d2 : decide ((0 : Int) ≤ 2 ∧ (2 : Int) < (([a, b, c, d, f].length : Nat) : Int)) = true := rfl
    have d3 : decide ((0 : Int) ≤ 3 ∧ (3 : Int) < (([a, b, c, d, f].length : Nat) : Int)) = true := rfl
    have d4 : decide ((0 : Int) ≤ 4 ∧ (4 : Int) < (([a, b, c, d, f].length : Nat) : Int)) = true := rfl
    have w0 : okAt [.flt .f32] (fls .f32 w) 0 = true := okAt_fls (by omega)
    have w1 : okAt [.flt .f32] (fls .f32 w) 1 = true := okAt_fls (by omega)
    have q0 : decide ((0 : Int) ≤ 0 ∧ (0 : Int) < (w.length : Int)) = true := decide_eq_true (by omega)
    have q1 : decide ((0 : Int) ≤ 1 ∧ (1 : Int) < (w.length : Int)) = true := decide_eq_true (by omega)
    simp only [Ef.eff, show ((1 : Int) == 0) = false from rfl, beq_self_eq_true, br_t, br_f, g 0 (by decide), g 1 (by decide), g 2 (by decide), g 3 (by decide), g 4 (by decide), k0, k1, k2, k3, k4, d0, d1, d2, d3, d4, w0, w1, q0, q1, fAt_fls, Bool.and_self, gd_t, e1, bd_s, hs2]
    rfl
  | echo L p q =>
    have hL : 1 ≤ L ∧ L ≤ 5 := he
    have hwL : w.length = L := hwl
    have e0 := i_copy (n + 100) w (by omega)
    have e0 : f84_i_copyNumbers (n + 101) w.length (fls .f32 w) = _ := e0
    have e1 := i_echo_loop (n + 98) xs.length (fls .f32 xs) p q xs [] [] w (n + 101) (by omega) (by omega) (by simp; omega) (by simp; omega) (by omega)
    have e1 : f135_i_Effectrun.l0 (n + 101) (n + 101) xs.length (fls .f32 xs) [p, q].length (fls .f32 [p, q]) w.length (fls .f32 w) 0 [] xs.length (fls .f32 xs) (xs.length : Int) 0 = _ := e1
    simp only [Ef.eff, show ((2 : Int) == 0) = false from rfl, show ((2 : Int) == 1) = false from rfl, beq_self_eq_true, br_t, br_f, e0, bd_s, e1]
    rfl
  | squeeze a r t q =>
    have hw1 : w.length = 1 := hwl
    obtain ⟨u, hs2, hs⟩ := sim_squeeze a r t q xs w hw1
    have e1 := i_runsqueeze (n + 96) a r (w.getD 0 0) t q xs hx hl (by omega)
    rw [hs] at e1
    have e1 : f170_i_RunSqueeze (n + 101) a r (w.getD 0 0) t q xs.length (fls .f32 xs) = _ := e1
    have g (i : Nat) (hi : i < 4) : okAt [.flt .f32] (fls .f32 [a, r, t, q]) i = true := okAt_fls (by simpa using hi)
    have k0 : fAt (fls .f32 [a, r, t, q]) 0 = a := rfl
    have k1 : fAt (fls .f32 [a, r, t, q]) 1 = r := rfl
    have k2 : fAt (fls .f32 [a, r, t, q]) 2 = t := rfl
    have k3 : fAt (fls .f32 [a, r, t, q]) 3 = q := rfl
    have d0 : decide ((0 : Int) ≤ 0 ∧ (0 : Int) < (([a, r, t, q].length : Nat) : Int)) = true := rfl
    have d1 : decide ((0 : Int) ≤ 1 ∧ (1 : Int) < (([a, r, t, q].length : Nat) : Int)) = true := rfl
    have d2 : decide ((0 : Int) ≤ 2 ∧ (2 : Int) < (([a, r, t, q].length : Nat) : Int)) = true := rfl
    have d3 : decide ((0 : Int) ≤ 3 ∧ (3 : Int) < (([a, r, t, q].length : Nat) : Int)) = true := rfl
    have w0 : okAt [.flt .f32] (fls .f32 w) 0 = true := okAt_fls (by omega)
    have q0 : decide ((0 : Int) ≤ 0 ∧ (0 : Int) < (w.length : Int)) = true := decide_eq_true (by omega)
    simp only [Ef.eff, show ((3 : Int) == 0) = false from rfl, show ((3 : Int) == 1) = false from rfl, show ((3 : Int) == 2) = false from rfl, beq_self_eq_true, br_t, br_f, g 0 (by decide), g 1 (by decide), g 2 (by decide), g 3 (by decide), k0, k1, k2, k3, d0, d1, d2, d3, w0, q0, Bool.and_self, gd_t]
    rw [fAt_fls]
    simp only [e1, bd_s, hs2]
    rfl
  | clip g =>
    obtain rfl : w = [] := List.length_eq_zero_iff.1 hwl
    have e1 := i_clips (n + 97) g xs hx hl (by omega)
    have e1 : f171_i_ClipSamples (n + 101) xs.length (fls .f32 xs) g = _ := e1
    have g1 : decide ((0 : Int) ≤ 0 ∧ (0 : Int) < (([g].length : Nat) : Int)) = true := rfl
    have g2 : okAt [.flt .f32] (fls .f32 [g]) 0 = true := rfl
    have g3 : fAt (fls .f32 [g]) 0 = g := rfl
    have hs : scan (Ef.clip g).step [] xs = (xs.map (clipM g), []) := scan_pure (clipM g) xs
    simp only [Ef.eff, show ((4 : Int) == 0) = false from rfl, show ((4 : Int) == 1) = false from rfl, show ((4 : Int) == 2) = false from rfl, show ((4 : Int) == 3) = false from rfl, beq_self_eq_true, br_t, br_f, g1, g2, g3, Bool.and_self, gd_t, e1, bd_s, hs, List.length_map]
    rfl
  | bend =>
    obtain rfl : w = [] := List.length_eq_zero_iff.1 hwl
    have e1 := i_bends_loop (n + 100) xs.length (fls .f32 xs) xs [] [] (n + 101) (by simp; omega) (by simp; omega) (by omega)
    have e1 : f135_i_Effectrun.l1 (n + 101) (n + 101) xs.length (fls .f32 xs) 0 [] xs.length (fls .f32 xs) (xs.length : Int) 0 = _ := e1
    have hs : scan Ef.bend.step [] xs = (xs.map bendM, []) := scan_pure bendM xs
    simp only [Ef.eff, show ((5 : Int) == 0) = false from rfl, show ((5 : Int) == 1) = false from rfl, show ((5 : Int) == 2) = false from rfl, show ((5 : Int) == 3) = false from rfl, show ((5 : Int) == 4) = false from rfl, beq_self_eq_true, br_t, br_f, e1, bd_s, hs]
    rfl
  | lim A k r =>
    have hA : A ≤ 4 ∧ k < 16 := he
    have hwA : w.length = A + 1 := hwl
    obtain ⟨gg, v, hs2, hs⟩ := sim_lim A k r xs w hwA
    have hk := lim_tab k hA.2
    rw [sub_finite] at hk
    have e1 := i_runlimiter n (limW k) r (w.getD 0 0) (w.drop 1) xs (w32_limW k) hk (w32_at hww 0) (fun y hy => hww y (List.mem_of_mem_drop hy)) (by simp; omega) hx hl (by omega)
    rw [hs, List.length_drop] at e1
    have hfit := run_fit (e := .lim A k r) he xs ⟨hwl, hww⟩ hx
    have hv : v.length = A := by
      have h1 : (scan (Ef.lim A k r).step w xs).2.length = A + 1 := hfit.2.1
      rw [hs2] at h1
      simpa using h1
    have g1 : decide ((0 : Int) ≤ 0 ∧ (0 : Int) < (([limW k, r].length : Nat) : Int)) = true := rfl
    have g2 : okAt [.flt .f32] (fls .f32 [limW k, r]) 0 = true := rfl
    have g3 : fAt (fls .f32 [limW k, r]) 0 = limW k := rfl
    have g4 : decide ((0 : Int) ≤ 1 ∧ (1 : Int) < (([limW k, r].length : Nat) : Int)) = true := rfl
    have g5 : okAt [.flt .f32] (fls .f32 [limW k, r]) 1 = true := rfl
    have g6 : fAt (fls .f32 [limW k, r]) 1 = r := rfl
    have w0 : okAt [.flt .f32] (fls .f32 w) 0 = true := okAt_fls (by omega)
    have q0 : decide ((0 : Int) ≤ 0 ∧ (0 : Int) < (w.length : Int)) = true := decide_eq_true (by omega)
    have q1 : decide ((0 : Int) ≤ 1 ∧ (1 : Int) ≤ (w.length : Int) ∧ (w.length : Int) ≤ (w.length : Int)) = true := decide_eq_true (by omega)
    have b1 : Nat.ble (1 + v.length) 2147483648 = true := by rw [Nat.ble_eq]; omega
    simp only [Ef.eff, show ((6 : Int) == 0) = false from rfl, show ((6 : Int) == 1) = false from rfl, show ((6 : Int) == 2) = false from rfl, show ((6 : Int) == 3) = false from rfl, show ((6 : Int) == 4) = false from rfl, show ((6 : Int) == 5) = false from rfl, br_f, g1, g2, g3, g4, g5, g6, w0, q0, q1, Bool.and_self, gd_t, drop_one]
    rw [fAt_fls]
    simp only [e1, bd_s, b1, gd_t, hs2]
    rw [Nat.add_comm 1 v.length]
    rfl
theorem i_chain_loop (n : Nat) (hn : 600 < n) (N N2 : Nat) (cs : List T) (es : List Ef) (hle : es.length ≤ 100) (ho : ∀ e ∈ es, e.Ok) (ls : List (List Nat)) (hf : Fits es ls) : ∀ (j i m : Nat) (P : List (List Nat)) (xs : List Nat), i + j = es.length → P.length ≤ i → AllW xs → xs.length ≤ 256 → j < m →
    f75_i_runChain.l0 (n + 102) m N cs ls.length (ls.map rwF) xs.length (fls .f32 xs) P.length (P.map rwF) es.length (effs (effL es)) (es.length : Int) (i : Int) =
      some ((chainGo (es.drop i) (ls.drop i) xs).1.length, fls .f32 (chainGo (es.drop i) (ls.drop i) xs).1, (P ++ (chainGo (es.drop i) (ls.drop i) xs).2).length, (P ++ (chainGo (es.drop i) (ls.drop i) xs).2).map rwF) := by
  have hlen := hf.len
  intro j
  induction j with
  | zero =>
    intro i m P xs hi hP hx hl hm
    obtain ⟨m, rfl⟩ : ∃ k, m = k + 1 := ⟨m - 1, by omega⟩
    rw [f75_i_runChain.l0, nlt_dec (by omega), List.drop_eq_nil_of_le (show es.length ≤ i by omega), List.drop_eq_nil_of_le (show ls.length ≤ i by omega)]
    simp only [br_f, chainGo, List.append_nil]
  | succ j ih =>
    intro i m P xs hi hP hx hl hm
    obtain ⟨m, rfl⟩ : ∃ k, m = k + 1 := ⟨m - 1, by omega⟩
    have h : i < es.length := by omega
    have he : i < (effL es).length := by rw [effL_length]; exact h
    have hil : i < ls.length := by omega
    have hO := ho _ (efAt_mem h)
    have hF := hf.at i h
    have e1 := i_effectrun n hO hF hx hl hn
    obtain ⟨f1, f2⟩ := run_fit hO xs hF hx
    have l1 : (scan (efAt es i).step (row ls i) xs).1.length = xs.length := scan_length _ _ _
    have step := ih (i + 1) m (P ++ [(scan (efAt es i).step (row ls i) xs).2]) (scan (efAt es i).step (row ls i) xs).1 (by omega) (by simp; omega) f1 (by omega) (by omega)
    have hd : chainGo (es.drop i) (ls.drop i) xs = ((chainGo (es.drop (i + 1)) (ls.drop (i + 1)) (scan (efAt es i).step (row ls i) xs).1).1, (scan (efAt es i).step (row ls i) xs).2 :: (chainGo (es.drop (i + 1)) (ls.drop (i + 1)) (scan (efAt es i).step (row ls i) xs).1).2) := by
      rw [ef_drop h, row_drop hil]; rfl
    have hp := push_rw P (scan (efAt es i).step (row ls i) xs).2
    rw [f75_i_runChain.l0, lt_dec h, in_dec h, in_dec hil, Int.toNat_natCast, okE he, okR hil]
    simp only [br_t, Bool.and_self, gd_t, kE he, gE he, nE he, lE he, effL_at h, nR hil, lR hil, e1, bd_s, push_ok (show P.length < 2147483648 by omega), hp, wrap_succ (show i < 9223372036854775807 by omega)]
    rw [push_len (z := (scan (efAt es i).step (row ls i) xs).2), step, hd]
    simp
theorem i_runchain_ (n : Nat) (hn : 600 < n) (es : List Ef) (hle : es.length ≤ 100) (ho : ∀ e ∈ es, e.Ok) (ls : List (List Nat)) (hf : Fits es ls) (xs : List Nat) (hx : AllW xs) (hl : xs.length ≤ 256) :
    f75_i_runChain (n + 103) es.length (effs (effL es)) ls.length (ls.map rwF) xs.length (fls .f32 xs) =
      some ((chainGo es ls xs).1.length, fls .f32 (chainGo es ls xs).1, (chainGo es ls xs).2.length, (chainGo es ls xs).2.map rwF) := by
  have e1 := i_chain_loop n hn es.length es.length (effs (effL es)) es hle ho ls hf es.length 0 (n + 102) [] xs (by omega) (by simp) hx hl (by omega)
  have e1 : f75_i_runChain.l0 (n + 102) (n + 102) es.length (effs (effL es)) ls.length (ls.map rwF) xs.length (fls .f32 xs) 0 [] es.length (effs (effL es)) (es.length : Int) 0 = _ := e1
  have e0 := i_copy (n + 101) xs (by omega)
  have e0 : f84_i_copyNumbers (n + 102) xs.length (fls .f32 xs) = _ := e0
  rw [f75_i_runChain, e0]
  simp only [bd_s, e1, List.drop_zero, List.nil_append]
theorem i_runchain (n : Nat) (hn : 600 < n) (es : List Ef) (hle : es.length ≤ 8) (ho : ∀ e ∈ es, e.Ok) (ls : List (List Nat)) (hf : Fits es ls) (xs : List Nat) (hx : AllW xs) (hl : xs.length ≤ 256) :
    f22_i_RunChain (n + 104) es.length (effs (effL es)) ls.length (ls.map rwF) xs.length (fls .f32 xs) =
      some ((chainGo es ls xs).1.length, fls .f32 (chainGo es ls xs).1, (chainGo es ls xs).2.length, (chainGo es ls xs).2.map rwF, true) := by
  have e0 := i_isstate (n + 97) es hle ho ls hf.sok (by omega)
  have e0 : f24_i_IsState (n + 103) es.length (effs (effL es)) es.length (ls.map rwF) = _ := e0
  rw [← hf.len] at e0
  rw [f22_i_RunChain, hf.len.symm, e0, i_few, decide_eq_true (show (xs.length : Int) ≤ 256 by omega)]
  have e1 := i_runchain_ n hn es (by omega) ho ls hf xs hx hl
  rw [hf.len.symm] at e1
  simp only [bd_s, Bool.not_true, br_f, e1]

theorem same_rows (n : Nat) (es : List Ef) (hl : es.length ≤ 100) (ho : ∀ e ∈ es, e.Ok) (ls : List (List Nat)) (hf : Fits es ls) (hn : 100 < n) : ∀ (j i m : Nat), i + j = ls.length → j < m →
    f4_l_FnChainBlocks.l0 (n + 3) m ls.length (ls.map rwF) ls.length (ls.map rwF) (i : Int) = some (Sum.inr ()) := by
  have hlen := hf.len
  intro j
  induction j with
  | zero =>
    intro i m hi hm
    obtain ⟨m, rfl⟩ : ∃ k, m = k + 1 := ⟨m - 1, by omega⟩
    rw [f4_l_FnChainBlocks.l0, nlt_dec (by omega)]; rfl
  | succ j ih =>
    intro i m hi hm
    obtain ⟨m, rfl⟩ : ∃ k, m = k + 1 := ⟨m - 1, by omega⟩
    have hil : i < ls.length := by omega
    obtain ⟨f1, f2⟩ := hf.at i (by omega)
    have hk := keep_le (ho _ (efAt_mem (show i < es.length by omega)))
    have same := l_same n (row ls i) (row ls i) f2 f2 (by omega) (by omega)
    rw [f4_l_FnChainBlocks.l0, lt_dec hil, in_dec hil, Int.toNat_natCast, okR hil, nR hil, lR hil, same]
    simp only [br_t, Bool.and_self, gd_t, bd_s, Bool.not_true, br_f, wrap_succ (show i < 9223372036854775807 by omega), decide_true]
    exact ih (i + 1) m (by omega) (by omega)
theorem main_ (n : Nat) (hn : 800 < n) (cs : List Int) (hc : ∀ b ∈ cs, GoodI .u8 b) (ms : List Int) (hm : ∀ b ∈ ms, GoodI .u8 b) : f4_l_FnChainBlocks (n + 200) cs.length (its .u8 cs) ms.length (its .u8 ms) = some true := by
  rw [f4_l_FnChainBlocks, l_long]
  cases hlong : decide (48 < cs.length ∨ 48 < ms.length)
  case true => rfl
  obtain ⟨es, hel, ho, e1⟩ := s_chain (n + 188) (bytes_of hc) (by omega)
  have e1 : f19_s_R8Chain (n + 199) cs.length (its .u8 cs) = _ := e1
  obtain ⟨ls, hs, e2⟩ := s_state (n + 192) (bytes_of hm) (by omega) es (by omega) ho
  have e2 : f20_s_R8State (n + 199) ms.length (its .u8 ms) es.length (effs (effL es)) = _ := e2
  obtain ⟨xs, hxl, hxw, e3⟩ := s_r8samples (n + 192) (bytes_of hm) 16 (by omega) (by omega)
  have e3 : f21_s_R8Samples (n + 199) ms.length (its .u8 ms) 16 = some (xs.length, fls .f32 xs) := e3
  obtain ⟨a, h3, e4⟩ := l_at (n + 198) (bytes_of hc) (i := 40) (k := (xs.length : Int) + 1) (by omega) (by omega)
  obtain ⟨a, rfl⟩ := Int.eq_ofNat_of_zero_le h3.1
  have ha : a ≤ xs.length := by omega
  have hwt : AllW (xs.take a) := fun x hx => hxw x (List.mem_of_mem_take hx)
  have hwd : AllW (xs.drop a) := fun x hx => hxw x (List.mem_of_mem_drop hx)
  have hl2 : (xs.take a).length = a := by rw [List.length_take]; omega
  have hl3 : (xs.drop a).length = xs.length - a := List.length_drop
  have hF := hs.fits
  obtain ⟨w1, F1, n1⟩ := chain_fit es ls xs ho hF hxw
  obtain ⟨w2, F2, n2⟩ := chain_fit es ls (xs.take a) ho hF hwt
  obtain ⟨w3, F3, n3⟩ := chain_fit es _ (xs.drop a) ho F2 hwd
  have g1 := i_runchain (n + 95) (by omega) es hel ho ls hF xs hxw (by omega)
  have g2 := i_runchain (n + 95) (by omega) es hel ho ls hF (xs.take a) hwt (by omega)
  have g3 := i_runchain (n + 95) (by omega) es hel ho _ F2 (xs.drop a) hwd (by omega)
  have hsplit := chain_append es ls (xs.take a) (xs.drop a) hF
  rw [List.take_append_drop] at hsplit
  have v1 := i_validchain (n + 194) es hel ho (by omega)
  have v1 : f23_i_ValidChain (n + 199) es.length (effs (effL es)) = _ := v1
  have st : ∀ ls', Fits es ls' → f24_i_IsState (n + 199) es.length (effs (effL es)) ls'.length (ls'.map rwF) = some true := fun ls' h => by
    rw [h.len]; exact i_isstate (n + 193) es hel ho ls' h.sok (by omega)
  have v2 := st _ hF
  have v3 := st _ F1
  have ex : (chainGo es (chainGo es ls (xs.take a)).2 (xs.drop a)).2 = (chainGo es ls xs).2 := by rw [hsplit]
  have ex1 : (chainGo es ls (xs.take a)).1 ++ (chainGo es (chainGo es ls (xs.take a)).2 (xs.drop a)).1 = (chainGo es ls xs).1 := by rw [hsplit]
  have len1 : (chainGo es ls xs).2.length = es.length := F1.len
  have rowsame := same_rows (n + 196) es (by omega) ho _ F1 (by omega) (chainGo es ls xs).2.length 0 (n + 199) (by omega) (by omega)
  have rowsame : f4_l_FnChainBlocks.l0 (n + 199) (n + 199) (chainGo es ls xs).2.length ((chainGo es ls xs).2.map rwF) (chainGo es ls xs).2.length ((chainGo es ls xs).2.map rwF) 0 = _ := rowsame
  have same := l_same (n + 196) _ _ w1 w1 (by omega) (by omega)
  rw [n1, decide_eq_true rfl] at same
  have same : f25_l_r8Same (n + 199) xs.length (fls .f32 (chainGo es ls xs).1) xs.length (fls .f32 (chainGo es ls xs).1) = _ := same
  rw [n1] at g1
  rw [n2, hl2] at g2
  rw [ex, n3, hl3] at g3
  have g1 : f22_i_RunChain (n + 199) es.length (effs (effL es)) ls.length (ls.map rwF) xs.length (fls .f32 xs) = _ := g1
  have g2 : f22_i_RunChain (n + 199) es.length (effs (effL es)) ls.length (ls.map rwF) a (fls .f32 (xs.take a)) = _ := g2
  have g3 : f22_i_RunChain (n + 199) es.length (effs (effL es)) (chainGo es ls (xs.take a)).2.length ((chainGo es ls (xs.take a)).2.map rwF) (xs.length - a) (fls .f32 (xs.drop a)) = _ := g3
  have q1 : decide ((0 : Int) ≤ 0 ∧ (0 : Int) ≤ (a : Int) ∧ (a : Int) ≤ (xs.length : Int)) = true := decide_eq_true (by omega)
  have q2 : decide ((0 : Int) ≤ (a : Int) ∧ (a : Int) ≤ (xs.length : Int) ∧ (xs.length : Int) ≤ (xs.length : Int)) = true := decide_eq_true (by omega)
  have q3 : (fls .f32 xs).take a = fls .f32 (xs.take a) := fls_take _ _ _
  have q4 : ((fls .f32 xs).drop a).take (xs.length - a) = fls .f32 (xs.drop a) := by rw [fls_drop, fls_take, List.take_of_length_le (by omega)]
  have q5 : ∀ p q : List Nat, reps 0 [T.flt FloatKind.f32 0] ++ fls .f32 p ++ fls .f32 q = fls .f32 (p ++ q) := by intro p q; rw [← fls_append]; rfl
  have b1 : Nat.ble (0 + a) 2147483648 = true := le_ble (by omega)
  have b2 : Nat.ble xs.length 2147483648 = true := le_ble (by omega)
  have hsum : 0 + a + (xs.length - a) = xs.length := by omega
  have hw : IntKind.i64.wrap ((xs.length : Int) + 1) = (xs.length : Int) + 1 := by rw [wrap64] <;> omega
  simp only [br_f, bd_s, e1, e2, e3, hw, e4, g1, Int.toNat_natCast, List.drop_zero, Nat.sub_zero, q1, q2, q3, q4, gd_t, g2, g3, Bool.not_true, v1, v2, v3, bne_self_eq_false, b1, hsum, b2, q5, ex1, same, rowsame, sm_r]
theorem exact_ (cs : List Int) (hc : ∀ b ∈ cs, GoodI .u8 b) (lc : cs.length ≤ maxLen) (ms : List Int) (hm : ∀ b ∈ ms, GoodI .u8 b) (lm : ms.length ≤ maxLen) : ∃ n, f4_l_FnChainBlocks n cs.length (its .u8 cs) ms.length (its .u8 ms) = some true := by
  exact ⟨1100, main_ 900 (by omega) cs hc ms hm⟩
theorem law4 : ∀ args, LawArgs E Try.f4.params.toList args → ∃ N os, evalFn E N 4 args = some ⟨[⟨false, [.leaf], [.bool true]⟩], os⟩ := by
  intro args h0
  have hp : Try.f4.params.toList = [22, 22] := by kernel_rfl
  rw [hp] at h0
  obtain ⟨ts0, r0, rfl, hw0, h1⟩ := h0.cons_inv (d := ⟨false, 1, 24, [.sl .own [.leaf]], [.lst 0 []], .slc 5⟩) (by kernel_rfl)
  obtain ⟨n0, cs0, rfl, gl0, hs0⟩ := hw0.slc_inv (e := 5) (d := ⟨false, 1, 24, [.sl .own [.leaf]], [.lst 0 []], .slc 5⟩) (by kernel_rfl) rfl
  obtain ⟨a0, rfl, rfl, g0⟩ := hs0.ints (k := .u8) (d := ⟨false, 1, 1, [.leaf], [.int .u8 0], .int .u8⟩) (by kernel_rfl) rfl
  obtain ⟨ts1, r1, rfl, hw1, h2⟩ := h1.cons_inv (d := ⟨false, 1, 24, [.sl .own [.leaf]], [.lst 0 []], .slc 5⟩) (by kernel_rfl)
  obtain ⟨n1, cs1, rfl, gl1, hs1⟩ := hw1.slc_inv (e := 5) (d := ⟨false, 1, 24, [.sl .own [.leaf]], [.lst 0 []], .slc 5⟩) (by kernel_rfl) rfl
  obtain ⟨a1, rfl, rfl, g1⟩ := hs1.ints (k := .u8) (d := ⟨false, 1, 1, [.leaf], [.int .u8 0], .int .u8⟩) (by kernel_rfl) rfl
  obtain rfl := h2.nil_inv
  obtain ⟨N, hN⟩ := exact_ a0 g0 gl0 a1 g1 gl1
  exact ⟨N, _, f4_l_FnChainBlocks.ok N (a0.length, its .u8 a0, a1.length, its .u8 a1) true hN⟩


end Go.Proofs.Ytdobhipbgpiceaa.D
end
section
/- FnChainBlocks holds: for every input the law returns true, and its arguments read as before. -/
namespace Go.Proofs.Ytdobhipbgpiceaa.fnChainBlocks
open Go Go.ChangeShapes Go.WideShapes Go.ChangeAt Go.RowKit Go.Desk
set_option linter.unusedVariables false
theorem own : ownKnob Try.prog.godebug = none := by kernel_rfl
theorem laidOut : laidOutB Try.prog = true := by kernel_rfl
set_option maxRecDepth 100000 in
theorem lifted (os : Os) (started : os.Started) (H : Type) (enc : TypeId × Value → H) :
    ReturnsInHanded {} Try.checked os 4 .any (Rows.fnChainBlocksSpec.pre6 enc Try.prog Try.f4 Rows.fnChainBlocksRow.domain false) (Rows.fnChainBlocksSpec.post enc Try.prog Try.f4 false true false false) := by
  refine returnsInHanded_of_change (C := Try.checked) own started (by kernel_rfl) Try.func4
    (ChangeSpec.witness6 (enc := enc) (C := Try.checked) false ⟨#[], #[.slice none 0 0, .slice none 0 0], []⟩ 8 (by kernel_rfl) (by kernel_rfl) (by kernel_rfl) (by kernel_rfl)) ?_
  intro W base args ds gs before hval hW hcnd _
  exact law_contract (c := D.c4) Try.checked.mixed D.tysOk D.fnOk Try.func4 (by kernel_rfl) (by kernel_rfl) (by kernel_rfl) Try.underlying4 rfl
    (fun ds h => by
      rw [show Try.f4.params.toList.length = 2 by kernel_rfl] at h
      match ds, h with
      | [_, _], _ => rfl)
    laidOut (N := 8) (by kernel_rfl) (by kernel_rfl) D.law4 hval hW
theorem over : Rows.fnChainBlocksRow.holds Try.pinned (OpenSpec.ofChange Rows.fnChainBlocksSpec) :=
  OpenClaim.holds_of_wide 4 Try.f4 rfl rfl rfl rfl rfl rfl rfl ⟨rfl, rfl, rfl, rfl, rfl⟩ rfl rfl rfl rfl rfl (by kernel_rfl) Try.func4 (by kernel_rfl)
    (of_decide_eq_true (by kernel_rfl)) (by unfold Func.isWrapper; first | (rw [if_pos (by decide +kernel)]; kernel_rfl) | (rw [if_neg (by decide +kernel)]; exact ⟨rfl, rfl⟩))
    (fun os started H enc _ => lifted os started H enc)
theorem proved : Rows.FnChainBlocksSaid := over
#print axioms proved
end Go.Proofs.Ytdobhipbgpiceaa.fnChainBlocks
namespace Go.Proofs.Ytdobhipbgpiceaa
/-- The row, under a short name, for the claim. -/
theorem fnChainBlocks_holds : Rows.FnChainBlocksSaid := fnChainBlocks.proved
end Go.Proofs.Ytdobhipbgpiceaa
end
