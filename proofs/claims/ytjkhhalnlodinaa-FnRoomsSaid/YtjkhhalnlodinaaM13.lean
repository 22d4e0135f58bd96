/- FnRooms holds: for every input the law returns true, and its arguments read as before. -/
import Derived.Test.YtjkhhalnlodinaaChecked
import Derived.Test.YtjkhhalnlodinaaDeskF
import Derived.KernelRfl
import Derived.Test.YtjkhhalnlodinaaRows
import Derived.WalkKit
import Derived.ProofKit
import Derived.OpenShut
import Derived.ShutString
import Derived.ChangeOld
import Derived.Below
import Derived.SizedLaws
import Derived.Test.YtjkhhalnlodinaaM13a
set_option linter.all false
section
/- FnRooms, in plain Lean. -/
namespace Go.Proofs.Ytjkhhalnlodinaa.D
open Go Go.Desk
set_option linter.unusedVariables false
theorem s_from (n l : Nat) (c : List T) : f90_s_l00From (n + 1) l c = some (l, c, 0, 0) := by rw [f90_s_l00From]
theorem s_next (n : Nat) {bs : List Int} (hb : Bytes bs) {a : Int} (h0 : 0 ≤ a) (h1 : a ≤ 1125899906842624) (sd : Int) :
    ∃ r sd', (0 ≤ r ∧ r ≤ 255) ∧ f163_s_l00Srcnext (n + 1) bs.length (its .u8 bs) a sd = some (r, bs.length, its .u8 bs, a + 1, sd') := by
  rw [f163_s_l00Srcnext]
  rw [show IntKind.i64.wrap (a + 1) = a + 1 by rw [wrap64] <;> omega]
  cases h : decide (a < (bs.length : Int))
  · simp only [br_f]
    cases decide (a + 1 ≤ (bs.length : Int))
    · exact ⟨_, _, and255 _, rfl⟩
    · exact ⟨0, _, by omega, rfl⟩
  · simp only [decide_eq_true_eq] at h
    obtain ⟨i, rfl⟩ := Int.eq_ofNat_of_zero_le h0
    have hi : i < bs.length := by omega
    have hr := hb (bs[i]) (List.getElem_mem _)
    simp only [br_t, in_dec hi, Int.toNat_natCast, okAt_its hi, Bool.and_self, gd_t, iAt_its]
    rw [show bs.getD i 0 = bs[i] by simp [List.getD, hi], show IntKind.i64.wrap bs[i] = bs[i] by rw [wrap64] <;> omega]
    cases decide ((i : Int) + 1 ≤ (bs.length : Int))
    · exact ⟨_, _, and255 _, rfl⟩
    · exact ⟨_, _, hr, rfl⟩
theorem s_pick (n : Nat) {bs : List Int} (hb : Bytes bs) {a : Int} (h0 : 0 ≤ a) (h1 : a ≤ 1125899906842622) (sd k : Int) :
    ∃ r a' sd', (0 ≤ r ∧ (1 < k → r < k) ∧ (k ≤ 1 → r = 0)) ∧ (a ≤ a' ∧ a' ≤ a + 2) ∧ f97_s_l00Srcpick (n + 2) bs.length (its .u8 bs) a sd k = some (r, bs.length, its .u8 bs, a', sd') := by
  rw [f97_s_l00Srcpick]
  by_cases hk : k ≤ 1
  · rw [decide_eq_true hk]; exact ⟨0, a, sd, by omega, by omega, rfl⟩
  rw [decide_eq_false hk]
  obtain ⟨r, s1, hr, e1⟩ := s_next n hb h0 (by omega) sd
  simp only [br_f, e1, bd_s]
  have hk0 : (!decide (k = 0)) = true := by simp; omega
  by_cases hk2 : k > 200
  · rw [decide_eq_true hk2]
    obtain ⟨r', s2, hr', e2⟩ := s_next n hb (a := a + 1) (by omega) (by omega) s1
    simp only [br_t, e2, bd_s, hk0, gd_t]
    rw [show IntKind.i64.wrap (r * 256) = r * 256 by rw [wrap64] <;> omega, show IntKind.i64.wrap (r * 256 + r') = r * 256 + r' by rw [wrap64] <;> omega]
    refine ⟨_, _, _, ?_, ?_, rfl⟩
    · rw [Int.tmod_eq_emod_of_nonneg (by omega)]
      have := Int.emod_nonneg (r * 256 + r') (show k ≠ 0 by omega)
      have := Int.emod_lt_of_pos (r * 256 + r') (show 0 < k by omega)
      omega
    · omega
  · rw [decide_eq_false hk2]
    simp only [br_f, hk0, gd_t]
    refine ⟨_, _, _, ?_, ?_, rfl⟩
    · rw [Int.tmod_eq_emod_of_nonneg (by omega)]
      have := Int.emod_nonneg r (show k ≠ 0 by omega)
      have := Int.emod_lt_of_pos r (show 0 < k by omega)
      omega
    · omega
theorem s_one (n : Nat) {bs : List Int} (hb : Bytes bs) {a : Int} (h0 : 0 ≤ a) (h1 : a ≤ 1125899906842622) (sd k : Int) :
    ∃ r a' sd', (a ≤ a' ∧ a' ≤ a + 2) ∧ f158_s_l00Srcone (n + 3) bs.length (its .u8 bs) a sd k = some (r, bs.length, its .u8 bs, a', sd') := by
  obtain ⟨r, a', s', -, ha, e⟩ := s_pick n hb h0 h1 sd k
  rw [f158_s_l00Srcone, e]
  exact ⟨_, _, _, ha, rfl⟩
theorem s_plain (n : Nat) {bs : List Int} (hb : Bytes bs) {a : Int} (h0 : 0 ≤ a) (h1 : a ≤ 1125899906842620) (sd : Int) :
    ∃ x a' sd', Plain x ∧ (a ≤ a' ∧ a' ≤ a + 4) ∧ f91_s_l01DrawPlain (n + 4) bs.length (its .u8 bs) a sd = some (x, bs.length, its .u8 bs, a', sd') := by
  obtain ⟨r, a1, s1, hr, ha, e⟩ := s_pick (n + 1) hb h0 (by omega) sd 129
  obtain ⟨b, a2, s2, ha2, e2⟩ := s_one n hb (a := a1) (by omega) (by omega) s1 4
  rw [f91_s_l01DrawPlain, e]
  simp only [bd_s, e2]
  rw [show IntKind.i64.wrap (r - 64) = r - 64 by rw [wrap64] <;> omega]
  cases b
  · exact ⟨_, a2, s2, ⟨r - 64, by omega, .inr rfl⟩, by omega, rfl⟩
  · exact ⟨_, a2, s2, ⟨r - 64, by omega, .inl rfl⟩, by omega, rfl⟩
theorem s_among (n : Nat) {bs : List Int} (hb : Bytes bs) {a : Int} (h0 : 0 ≤ a) (h1 : a ≤ 1125899906842622) (sd : Int) (L : List Int) (hL : 0 < L.length) :
    ∃ r a' sd', r ∈ L ∧ (a ≤ a' ∧ a' ≤ a + 2) ∧ f168_s_l00Srcamong (n + 3) bs.length (its .u8 bs) a sd L.length (its .i64 L) = some (r, bs.length, its .u8 bs, a', sd', L.length, its .i64 L) := by
  obtain ⟨r, a1, s1, hr, ha, e⟩ := s_pick n hb h0 h1 sd (L.length : Int)
  rw [f168_s_l00Srcamong, e]
  obtain ⟨i, rfl⟩ := Int.eq_ofNat_of_zero_le hr.1
  have hi : i < L.length := by
    by_cases h : (L.length : Int) ≤ 1
    · have := hr.2.2 h; omega
    · have := hr.2.1 (by omega); omega
  simp only [bd_s, in_dec hi, Int.toNat_natCast, okAt_its hi, Bool.and_self, gd_t, iAt_its]
  refine ⟨_, _, _, ?_, ha, rfl⟩
  rw [show L.getD i 0 = L[i] by simp [List.getD, hi]]
  exact List.getElem_mem _
theorem s_from32 (n : Nat) {i : Int} (h0 : 0 ≤ i) (h1 : i < 4294967296) : ∃ x, W32 x ∧ f167_s_l01From (n + 2) i = some x := by
  rw [f167_s_l01From]
  refine ⟨canon .f32 i.toNat, w32_canon (by omega), ?_⟩
  rw [u32_wrap h0 h1]
  show bd (if 0 ≤ i then some (canon .f32 i.toNat) else none) _ = _
  rw [if_pos h0]; rfl
theorem s_float (n : Nat) {bs : List Int} (hb : Bytes bs) {a : Int} (h0 : 0 ≤ a) (h1 : a ≤ 1125899906842600) (sd : Int) :
    ∃ x a' sd', W32 x ∧ (a ≤ a' ∧ a' ≤ a + 16) ∧ f112_s_l01DrawFloat (n + 5) bs.length (its .u8 bs) a sd = some (x, bs.length, its .u8 bs, a', sd') := by
  obtain ⟨b, a1, s1, ha1, e1⟩ := s_one (n + 1) hb h0 (by omega) sd 12
  rw [f112_s_l01DrawFloat, e1]
  simp only [bd_s, br_not]
  cases b
  · obtain ⟨x, a2, s2, hx, ha2, e2⟩ := s_plain n hb (a := a1) (by omega) (by omega) s1
    simp only [br_f, e2, bd_s]
    exact ⟨_, _, _, hx.w32, by omega, rfl⟩
  obtain ⟨q, a2, s2, -, ha2, e2⟩ := s_pick (n + 2) hb (a := a1) (by omega) (by omega) s1 4
  simp only [br_t, e2, bd_s]
  cases q == 0
  case true =>
    obtain ⟨r, a3, s3, hr, ha3, e3⟩ := s_among (n + 1) hb (a := a2) (by omega) (by omega) s2 [0, 2147483648, 2139095040, 4286578688, 2143289344, 1, 2139095039, 8388608, 8388607, 2147483649] (by decide)
    have hr' : 0 ≤ r ∧ r < 4294967296 := by simp only [List.mem_cons, List.not_mem_nil, or_false] at hr; omega
    obtain ⟨x, hx, e4⟩ := s_from32 (n + 2) hr'.1 hr'.2
    rw [br_t]
    refine ⟨x, a3, s3, hx, by omega, ?_⟩
    refine Eq.trans (congrArg (fun o => bd o _) e3) ?_
    simp only [bd_s, e4]
  cases q == 1
  case true =>
    obtain ⟨r, a3, s3, hr, ha3, e3⟩ := s_pick (n + 2) hb (a := a2) (by omega) (by omega) s2 65536
    obtain ⟨r', a4, s4, hr', ha4, e4⟩ := s_pick (n + 2) hb (a := a3) (by omega) (by omega) s3 65536
    obtain ⟨x, hx, e5⟩ := s_from32 (n + 2) (i := r * 65536 + r') (by omega) (by omega)
    simp only [br_f, br_t, e3, e4, bd_s]
    rw [show IntKind.i64.wrap (r * 65536) = r * 65536 by rw [wrap64] <;> omega, show IntKind.i64.wrap (r * 65536 + r') = r * 65536 + r' by rw [wrap64] <;> omega, e5]
    exact ⟨x, _, _, hx, by omega, rfl⟩
  cases q == 2
  case true =>
    obtain ⟨r, a3, s3, hr, ha3, e3⟩ := s_pick (n + 2) hb (a := a2) (by omega) (by omega) s2 65536
    obtain ⟨x, hx, e5⟩ := s_from32 (n + 2) (i := r * 65536) (by omega) (by omega)
    simp only [br_f, br_t, e3, bd_s]
    rw [show IntKind.i64.wrap (r * 65536) = r * 65536 by rw [wrap64] <;> omega, e5]
    exact ⟨x, _, _, hx, by omega, rfl⟩
  obtain ⟨x, a3, s3, hx, ha3, e3⟩ := s_plain n hb (a := a2) (by omega) (by omega) s2
  obtain ⟨r, a4, s4, hr, ha4, e4⟩ := s_among (n + 1) hb (a := a3) (by omega) (by omega) s3 [8388608, 2130706432, 1610612736, 536870912] (by decide)
  have hr' : 0 ≤ r ∧ r < 4294967296 := by simp only [List.mem_cons, List.not_mem_nil, or_false] at hr; omega
  obtain ⟨y, hy, e5⟩ := s_from32 (n + 2) hr'.1 hr'.2
  simp only [br_f, e3, bd_s]
  refine ⟨_, a4, s4, w32_fmul x y, by omega, ?_⟩
  refine Eq.trans (congrArg (fun o => bd o _) e4) ?_
  simp only [bd_s, e5]
theorem s_floats_loop (n : Nat) {bs : List Int} (hb : Bytes bs) (str : Bool) : ∀ (j m : Nat) (a sd : Int) (acc : List Nat), 0 ≤ a → a + 16 * (j : Int) ≤ 1125899906842000 → acc.length + j ≤ 2147483647 → j < m → (∀ x ∈ acc, W32 x) →
    ∃ ys a' sd', ys.length = acc.length + j ∧ (∀ x ∈ ys, W32 x) ∧ (a ≤ a' ∧ a' ≤ a + 16 * (j : Int)) ∧
      f98_s_l01DrawFloats.l0 (n + 5) m bs.length (its .u8 bs) a sd (j : Int) acc.length (fls .f32 acc) str = some (bs.length, its .u8 bs, a', sd', ys.length, fls .f32 ys) := by
  intro j
  induction j with
  | zero =>
    intro m a sd acc h0 h1 hl hm hw
    obtain ⟨m, rfl⟩ : ∃ k, m = k + 1 := ⟨m - 1, by omega⟩
    rw [f98_s_l01DrawFloats.l0]
    exact ⟨acc, a, sd, by omega, hw, by omega, rfl⟩
  | succ j ih =>
    intro m a sd acc h0 h1 hl hm hw
    obtain ⟨m, rfl⟩ : ∃ k, m = k + 1 := ⟨m - 1, by omega⟩
    rw [f98_s_l01DrawFloats.l0, decide_eq_true (show (((j + 1 : Nat) : Int) > 0) by omega), show IntKind.i64.wrap (((j + 1 : Nat) : Int) - 1) = (j : Int) by rw [wrap64] <;> omega]
    have key : ∀ x a1 s1, W32 x → a ≤ a1 → a1 ≤ a + 16 → ∃ ys a' sd', ys.length = acc.length + (j + 1) ∧ (∀ x ∈ ys, W32 x) ∧ (a ≤ a' ∧ a' ≤ a + 16 * ((j + 1 : Nat) : Int)) ∧
        f98_s_l01DrawFloats.l0 (n + 5) m bs.length (its .u8 bs) a1 s1 (j : Int) (acc ++ [x]).length (fls .f32 (acc ++ [x])) str = some (bs.length, its .u8 bs, a', sd', ys.length, fls .f32 ys) := by
      intro x a1 s1 hx h2 h3
      obtain ⟨ys, a', sd', hy, hyw, ha, e⟩ := ih m a1 s1 (acc ++ [x]) (by omega) (by omega) (by simp; omega) (by omega) (by
        intro y hy; simp only [List.mem_append, List.mem_singleton] at hy; rcases hy with hy | rfl
        · exact hw y hy
        · exact hx)
      exact ⟨ys, a', sd', by simp at hy; omega, hyw, by omega, e⟩
    simp only [br_t]
    cases str
    · obtain ⟨x, a1, s1, hx, ha, e⟩ := s_plain (n + 1) hb h0 (by omega) sd
      simp only [br_f, e, bd_s, push_ok (show acc.length < 2147483648 by omega), gd_t, push_fls]
      rw [show acc.length + 1 = (acc ++ [x]).length by simp]
      exact key x a1 s1 hx.w32 (by omega) (by omega)
    · obtain ⟨x, a1, s1, hx, ha, e⟩ := s_float n hb h0 (by omega) sd
      simp only [br_t, e, bd_s, push_ok (show acc.length < 2147483648 by omega), gd_t, push_fls]
      rw [show acc.length + 1 = (acc ++ [x]).length by simp]
      exact key x a1 s1 hx (by omega) (by omega)
theorem s_floats (n : Nat) {bs : List Int} (hb : Bytes bs) {a : Int} (h0 : 0 ≤ a) (j : Nat) (h1 : a + 16 * (j : Int) ≤ 1125899906841000) (hj : j ≤ 2147483647) (hn : j < n) (sd : Int) :
    ∃ ys a' sd', ys.length = j ∧ (∀ x ∈ ys, W32 x) ∧ (a ≤ a' ∧ a' ≤ a + 2 + 16 * (j : Int)) ∧ f98_s_l01DrawFloats (n + 6) bs.length (its .u8 bs) a sd (j : Int) = some (ys.length, fls .f32 ys, bs.length, its .u8 bs, a', sd') := by
  obtain ⟨b, a1, s1, ha1, e1⟩ := s_one (n + 2) hb h0 (by omega) sd 4
  obtain ⟨ys, a2, s2, hy, hw, ha2, e2⟩ := s_floats_loop n hb b j (n + 5) a1 s1 [] (by omega) (by omega) (by simp; omega) (by omega) (by simp)
  rw [f98_s_l01DrawFloats, e1]
  refine ⟨ys, a2, s2, by simpa using hy, hw, by omega, ?_⟩
  have e2 : f98_s_l01DrawFloats.l0 (n + 5) (n + 5) bs.length (its .u8 bs) a1 s1 (j : Int) 0 (reps 0 [(T.flt FloatKind.f32 0)]) b = some (bs.length, its .u8 bs, a2, s2, ys.length, fls .f32 ys) := e2
  simp only [bd_s, e2]

theorem l_long10 (n : Nat) (bs cs : List Int) : f28_l_b10Long (n + 1) bs.length (its .u8 bs) cs.length (its .u8 cs) = some (decide (1048576 < bs.length ∨ 1048576 < cs.length)) := by
  rw [f28_l_b10Long]
  by_cases h : 1048576 < bs.length
  · rw [decide_eq_true (show (bs.length : Int) > 1048576 by omega), decide_eq_true (Or.inl h)]; rfl
  · rw [decide_eq_false (show ¬ (bs.length : Int) > 1048576 by omega), br_f]
    congr 1
    simp [h]; omega
theorem l_at10 (n : Nat) {bs : List Int} (hb : Bytes bs) {i k : Int} (hi : 0 ≤ i) (hi2 : i ≤ 1000000) (hk : 1 ≤ k) : ∃ r, (0 ≤ r ∧ r < k) ∧ f29_l_b10At (n + 1) bs.length (its .u8 bs) i k = some r := by
  rw [f29_l_b10At]
  by_cases h : k ≤ 1
  · rw [decide_eq_true h]; exact ⟨0, by omega, rfl⟩
  rw [decide_eq_false h]
  have hk0 : (!decide (k = 0)) = true := by simp; omega
  by_cases h2 : i < (bs.length : Int)
  · rw [decide_eq_true h2]
    obtain ⟨i, rfl⟩ := Int.eq_ofNat_of_zero_le hi
    have hi : i < bs.length := by omega
    have hr := hb (bs[i]) (List.getElem_mem _)
    simp only [br_f, br_t, in_dec hi, Int.toNat_natCast, okAt_its hi, Bool.and_self, gd_t, iAt_its, hk0]
    rw [show bs.getD i 0 = bs[i] by simp [List.getD, hi], show IntKind.i64.wrap bs[i] = bs[i] by rw [wrap64] <;> omega]
    refine ⟨_, ?_, rfl⟩
    rw [Int.tmod_eq_emod_of_nonneg (by omega)]
    have := Int.emod_nonneg bs[i] (show k ≠ 0 by omega)
    have := Int.emod_lt_of_pos bs[i] (show 0 < k by omega)
    omega
  · rw [decide_eq_false h2]
    simp only [br_f, hk0, gd_t]
    rw [show IntKind.i64.wrap (i * 37) = i * 37 by rw [wrap64] <;> omega, show IntKind.i64.wrap (i * 37 + 11) = i * 37 + 11 by rw [wrap64] <;> omega]
    refine ⟨_, ?_, rfl⟩
    rw [Int.tmod_eq_emod_of_nonneg (by omega)]
    have := Int.emod_nonneg (i * 37 + 11) (show k ≠ 0 by omega)
    have := Int.emod_lt_of_pos (i * 37 + 11) (show 0 < k by omega)
    omega
theorem s_bits (n : Nat) {x : Nat} (h : W32 x) : f165_s_l01Bits (n + 2) x = some (x : Int) := by
  rw [f165_s_l01Bits, fne_nan]
  cases hn : isNaN .f32 x
  · have : xF32bits (n + 1) x = some (x : Int) := by simp [xF32bits, hn]
    have hx := h.1
    simp only [br_f, this, bd_s]
    rw [wrap64] <;> omega
  · rw [br_t, ← h.2, canon_nan hn]; rfl
theorem s_same1 (n : Nat) {x y : Nat} (hx : W32 x) (hy : W32 y) : f106_s_l01Same (n + 3) x y = some (x == y) := by
  rw [f106_s_l01Same, s_bits n hx]
  simp only [bd_s, s_bits n hy]
  congr 1
  rw [Bool.eq_iff_iff]; simp; constructor <;> omega
theorem s_same (n : Nat) {x y : Nat} (hx : W32 x) (hy : W32 y) : f33_s_SameNumber (n + 4) x y = some (x == y) := by
  rw [f33_s_SameNumber, s_same1 n hx hy]; rfl
theorem l_same10_loop (n : Nat) : ∀ (zs ys p q : List Nat) (m : Nat), ys.length = zs.length → p.length = q.length → (∀ x ∈ zs, W32 x) → (∀ x ∈ ys, W32 x) → p.length + zs.length ≤ 1048576 → zs.length < m →
    f44_l_b10Same.l0 (n + 4) m (p ++ zs).length (fls .f32 (p ++ zs)) (q ++ ys).length (fls .f32 (q ++ ys)) (p.length : Int) = some (if zs = ys then .inr () else .inl false) := by
  intro zs
  induction zs with
  | nil =>
    intro ys p q m hl hpq _ _ _ hm
    obtain ⟨m, rfl⟩ : ∃ k, m = k + 1 := ⟨m - 1, by omega⟩
    obtain rfl : ys = [] := List.length_eq_zero_iff.1 (by simpa using hl)
    rw [f44_l_b10Same.l0, lt_end]
    rfl
  | cons z zs ih =>
    intro ys p q m hl hpq hz hy hb hm
    obtain ⟨m, rfl⟩ : ∃ k, m = k + 1 := ⟨m - 1, by omega⟩
    cases ys with
    | nil => simp at hl
    | cons y ys =>
      rw [f44_l_b10Same.l0, lt_mid, in_mid]
      simp only [hpq, in_mid, toNat_len, okAt_mid]
      rw [← hpq]
      simp only [okAt_mid, fAt_mid, Bool.and_self, gd_t, br_t]
      rw [hpq]
      simp only [fAt_mid]
      rw [s_same n (hz z (by simp)) (hy y (by simp)), ← hpq]
      simp only [bd_s, br_not]
      cases h : z == y
      · simp only [beq_eq_false_iff_ne, ne_eq] at h
        simp [br_f, h]
      · simp only [beq_iff_eq] at h
        subst h
        rw [br_t, wrap_len (z := z) (by simp at hb; omega)]
        have := ih ys (p ++ [z]) (q ++ [z]) m (by simpa using hl) (by simp [hpq]) (fun x hx => hz x (by simp [hx])) (fun x hx => hy x (by simp [hx])) (by simp at hb ⊢; omega) (by simp at hm; omega)
        simpa using this
/-- two lists of numbers -/
theorem l_same10 (n : Nat) (xs ys : List Nat) (hx : ∀ x ∈ xs, W32 x) (hy : ∀ x ∈ ys, W32 x) (hl : xs.length ≤ 1048576) (hn : xs.length < n) : f44_l_b10Same (n + 5) xs.length (fls .f32 xs) ys.length (fls .f32 ys) = some (decide (xs = ys)) := by
  rw [f44_l_b10Same]
  by_cases h : ys.length = xs.length
  · rw [show (((xs.length : Nat) : Int) != ((ys.length : Nat) : Int)) = false by simp [h], br_f]
    have := l_same10_loop n xs ys [] [] (n + 4) h rfl hx hy (by simpa using hl) (by omega)
    simp only [List.nil_append, List.length_nil] at this
    rw [show ((0 : Nat) : Int) = 0 from rfl] at this
    rw [this, bd_s]
    by_cases e : xs = ys
    · rw [if_pos e, decide_eq_true e]; rfl
    · rw [if_neg e, decide_eq_false e]; rfl
  · rw [show (((xs.length : Nat) : Int) != ((ys.length : Nat) : Int)) = true by simp; omega, decide_eq_false (fun e => h (by rw [e]))]
    rfl
theorem s_b10numbers (n : Nat) {bs : List Int} (hb : Bytes bs) (k : Nat) (hk : k ≤ 1000000) (hn : k < n) : ∃ xs, xs.length = k ∧ (∀ x ∈ xs, W32 x) ∧ f30_s_B10Numbers (n + 7) bs.length (its .u8 bs) (k : Int) = some (xs.length, fls .f32 xs) := by
  obtain ⟨ys, a2, s2, hy, hw, ha2, e2⟩ := s_floats n hb (a := 0) (by omega) k (by omega) (by omega) (by omega) 0
  rw [f30_s_B10Numbers, s_from]
  simp only [bd_s, e2]
  exact ⟨ys, by omega, hw, rfl⟩

theorem s_in (n : Nat) (a b c : Int) : f130_s_l00In (n + 1) a b c = some (decide (b ≤ a ∧ a ≤ c)) := by
  rw [f130_s_l00In]
  by_cases h : b ≤ a <;> simp [br, h]
theorem i_in (n : Nat) (a b c : Int) : f93_i_within (n + 1) a b c = some (decide (b ≤ a ∧ a ≤ c)) := by
  rw [f93_i_within]
  by_cases h : b ≤ a <;> simp [br, h]

theorem i_few (n k : Nat) (l : List T) : f92_i_areSamples (n + 1) k l = some (decide ((k : Int) ≤ 256)) := by rw [f92_i_areSamples]



theorem i_copy (n : Nat) (xs : List Nat) (h : xs.length ≤ 2147483648) : f109_i_copyNumbers (n + 1) xs.length (fls .f32 xs) = some (xs.length, fls .f32 xs) := by
  rw [f109_i_copyNumbers, Nat.zero_add, le_ble h]; rfl
theorem i_taken (n : Nat) (w : Nat) (ws : List Nat) (x : Nat) (h : ws.length < 2147483648) : f174_i_take (n + 2) (w :: ws).length (fls .f32 (w :: ws)) x = some ((ws ++ [x]).length, fls .f32 (ws ++ [x])) := by
  rw [f174_i_take, decide_eq_true (by simp; omega : (0 : Int) ≤ 1 ∧ (1 : Int) ≤ ((w :: ws).length : Int) ∧ ((w :: ws).length : Int) ≤ ((w :: ws).length : Int)), fls_drop, fls_take]
  rw [show (w :: ws).length - 1 = ws.length by simp, show ((w :: ws).drop 1).take ws.length = ws by simp, i_copy n ws (by omega)]
  simp only [gd_t, bd_s, push_ok h, push_fls]
  rw [push_len (z := x)]
theorem i_length (n : Nat) (k : Int) : f134_i_isLength (n + 2) k = some (decide (1 ≤ k ∧ k ≤ 64)) := by rw [f134_i_isLength, i_in]; rfl
theorem i_sized (n : Nat) (x : Int) : f113_i_size (n + 1) x = some x := by rw [f113_i_size]
theorem i_all_loop (n : Nat) (N : Nat) (cs : List T) (lo hi : Int) : ∀ (zs p : List Int) (m : Nat), (∀ z ∈ zs, lo ≤ z ∧ z ≤ hi) → p.length + zs.length < 1048576 → zs.length < m →
    f116_i_allWithin.l0 (n + 1) m N cs lo hi (p ++ zs).length (its .i64 (p ++ zs)) ((p ++ zs).length : Int) (p.length : Int) = some (.inr ()) := by
  intro zs
  induction zs with
  | nil =>
    intro p m _ _ hm
    obtain ⟨m, rfl⟩ : ∃ k, m = k + 1 := ⟨m - 1, by omega⟩
    rw [f116_i_allWithin.l0, lt_end]; rfl
  | cons z zs ih =>
    intro p m hz hp hm
    obtain ⟨m, rfl⟩ : ∃ k, m = k + 1 := ⟨m - 1, by omega⟩
    rw [f116_i_allWithin.l0, lt_mid, in_mid, toNat_len, okAt_midI, iAt_mid]
    have := ih (p ++ [z]) m (fun x hx => hz x (by simp [hx])) (by simp at hp ⊢; omega) (by simp at hm; omega)
    simp only [br_t, gd_t, Bool.and_self, i_in, decide_eq_true (hz z (by simp)), bd_s, br_not, wrap_len (z := z) (show p.length < 4611686018427387904 by simp at hp; omega)]
    simpa using this
theorem i_allin (n : Nat) (xs : List Int) (lo hi : Int) (h : ∀ z ∈ xs, lo ≤ z ∧ z ≤ hi) (hl : xs.length < 1048576) (hn : xs.length < n) : f116_i_allWithin (n + 2) xs.length (its .i64 xs) lo hi = some true := by
  rw [f116_i_allWithin]
  have e := i_all_loop n xs.length (its .i64 xs) lo hi xs [] (n + 1) h (by simpa using hl) (by omega)
  have e : f116_i_allWithin.l0 (n + 1) (n + 1) xs.length (its .i64 xs) lo hi xs.length (its .i64 xs) (xs.length : Int) 0 = some (.inr ()) := e
  rw [e]; rfl



theorem i_sub (n : Nat) {x : Nat} (h : x < 4294967296) : f195_i_IsSubnormal (n + 1) x = some (sub32 x) := by
  rw [f195_i_IsSubnormal, ← sub_key h]
  cases fne .f32 x 0 <;> cases flt .f32 x 8388608 <;> rfl
theorem i_flush (n : Nat) {x : Nat} (h : W32 x) : f188_i_FlushNumber (n + 2) x = some (flushM x) := by
  rw [f188_i_FlushNumber, i_sub n h.1, bd_s, br_not]
  have hx := h.1
  cases hs : sub32 x
  · rw [br_f]
    unfold sub32 at hs
    unfold flushM
    simp at hs
    split
    · congr 1; omega
    · rfl
  · have hs' := hs
    unfold sub32 at hs
    simp at hs
    have hn : isNaN .f32 x = false := by rw [nan32]; simp; omega
    obtain ⟨y, e1, e2⟩ := copy_zero n hx hn
    rw [br_t, fltToFlt_wide]
    simp only [bd_s, e1, e2]
    unfold flushM
    rw [if_pos hs.2]
theorem i_flushedq (n : Nat) {x : Nat} (b : Bool) (h : W32 x) : f175_i_flushed (n + 3) x b = some (fl? b x) := by
  rw [f175_i_flushed]
  cases b
  · rfl
  · simp only [br_t, i_flush n h, bd_s]; rfl

theorem i_delaystep (n : Nat) (L : Int) (fb dry wet : Nat) (fl : Bool) (w : List Nat) (x : Nat) (h0 : 0 < w.length) (h : w.length ≤ 64) :
    f133_i_Delaystep (n + 4) L fb dry wet fl w.length (fls .f32 w) x = some ((delayStep fb dry wet fl w x).1, (delayStep fb dry wet fl w x).2.length, fls .f32 (delayStep fb dry wet fl w x).2) := by
  obtain ⟨v, vs, rfl⟩ : ∃ v vs, w = v :: vs := by cases w with
    | nil => simp at h0
    | cons v vs => exact ⟨v, vs, rfl⟩
  have c1 : decide ((0 : Int) ≤ 0 ∧ (0 : Int) < ((v :: vs).length : Int)) = true := by simp <;> omega
  have c2 : okAt [.flt .f32] (fls .f32 (v :: vs)) 0 = true := okAt_fls (by simp)
  have c3 : fAt (fls .f32 (v :: vs)) 0 = v := by rw [fAt_fls]; rfl
  rw [f133_i_Delaystep, c1, c2, c3]
  simp only [Bool.and_self, gd_t, i_flushedq n fl (w32_fadd _ _), bd_s, i_taken (n + 1) v vs _ (by simp at h; omega)]
  rfl
theorem i_passstep (n : Nat) (L : Int) (ga : Nat) (w : List Nat) (x : Nat) (h0 : 0 < w.length) (h : w.length ≤ 64) :
    f135_i_Passstep (n + 3) L ga w.length (fls .f32 w) x = some ((passStep ga w x).1, (passStep ga w x).2.length, fls .f32 (passStep ga w x).2) := by
  obtain ⟨v, vs, rfl⟩ : ∃ v vs, w = v :: vs := by cases w with
    | nil => simp at h0
    | cons v vs => exact ⟨v, vs, rfl⟩
  have c1 : decide ((0 : Int) ≤ 0 ∧ (0 : Int) < ((v :: vs).length : Int)) = true := by simp <;> omega
  have c2 : okAt [.flt .f32] (fls .f32 (v :: vs)) 0 = true := okAt_fls (by simp)
  have c3 : fAt (fls .f32 (v :: vs)) 0 = v := by rw [fAt_fls]; rfl
  rw [f135_i_Passstep, c1, c2, c3]
  simp only [Bool.and_self, gd_t, bd_s, i_taken n v vs _ (by simp at h; omega)]
  rfl
theorem i_rundelay_loop (n : Nat) (N : Nat) (cs : List T) (L : Int) (fb dry wet : Nat) (fl : Bool) : ∀ (zs p acc w : List Nat) (m : Nat), 0 < w.length → w.length ≤ 64 → acc.length + zs.length < 1048576 → p.length + zs.length < 1048576 → zs.length < m →
    f63_i_RunDelay.l0 (n + 4) m N cs L fb dry wet fl w.length (fls .f32 w) acc.length (fls .f32 acc) (p ++ zs).length (fls .f32 (p ++ zs)) ((p ++ zs).length : Int) (p.length : Int) =
      some ((scan (delayStep fb dry wet fl) w zs).2.length, fls .f32 (scan (delayStep fb dry wet fl) w zs).2, (acc ++ (scan (delayStep fb dry wet fl) w zs).1).length, fls .f32 (acc ++ (scan (delayStep fb dry wet fl) w zs).1)) := by
  intro zs
  induction zs with
  | nil =>
    intro p acc w m _ _ _ _ hm
    obtain ⟨m, rfl⟩ : ∃ k, m = k + 1 := ⟨m - 1, by omega⟩
    rw [f63_i_RunDelay.l0, lt_end]
    simp [br_f, scan]
  | cons z zs ih =>
    intro p acc w m h0 h ha hp hm
    obtain ⟨m, rfl⟩ : ∃ k, m = k + 1 := ⟨m - 1, by omega⟩
    have hp' : p.length < 1048576 := by simp at hp; omega
    have ha' : acc.length < 1048576 := by simp at ha; omega
    have hl : (delayStep fb dry wet fl w z).2.length = w.length := took_length h0
    rw [f63_i_RunDelay.l0, lt_mid, in_mid, toNat_len, okAt_mid, fAt_mid]
    simp only [br_t, gd_t, Bool.and_self, i_delaystep n L fb dry wet fl w z h0 h, bd_s, push_ok (show acc.length < 2147483648 by omega), push_fls, wrap_len (z := z) (show p.length < 4611686018427387904 by omega)]
    have := ih (p ++ [z]) (acc ++ [(delayStep fb dry wet fl w z).1]) (delayStep fb dry wet fl w z).2 m (by omega) (by omega) (by simp at ha ⊢; omega) (by simp at hp ⊢; omega) (by simp at hm; omega)
    simpa [scan] using this
theorem i_validdelay (n : Nat) (L : Int) (fb dry wet : Nat) (fl : Bool) : f64_i_ValidDelay (n + 3) L fb dry wet fl = some (decide (1 ≤ L ∧ L ≤ 64)) := by rw [f64_i_ValidDelay, i_length]; rfl
theorem i_rundelay (n : Nat) (fb dry wet : Nat) (fl : Bool) (w xs : List Nat) (h0 : 0 < w.length) (h : w.length ≤ 64) (hx : xs.length ≤ 256) (hn : 300 < n) :
    f63_i_RunDelay (n + 5) (w.length : Int) fb dry wet fl w.length (fls .f32 w) xs.length (fls .f32 xs) =
      some ((scan (delayStep fb dry wet fl) w xs).1.length, fls .f32 (scan (delayStep fb dry wet fl) w xs).1, (scan (delayStep fb dry wet fl) w xs).2.length, fls .f32 (scan (delayStep fb dry wet fl) w xs).2, true) := by
  have e := i_rundelay_loop n xs.length (fls .f32 xs) (w.length : Int) fb dry wet fl xs [] [] w (n + 4) h0 h (by simp; omega) (by simp; omega) (by omega)
  have e : f63_i_RunDelay.l0 (n + 4) (n + 4) xs.length (fls .f32 xs) (w.length : Int) fb dry wet fl w.length (fls .f32 w) 0 [] xs.length (fls .f32 xs) (xs.length : Int) 0 = _ := e
  rw [f63_i_RunDelay, i_validdelay, i_sized, i_few, i_copy (n + 3) w (by omega), decide_eq_true (show 1 ≤ (w.length : Int) ∧ (w.length : Int) ≤ 64 by omega), decide_eq_true (show (xs.length : Int) ≤ 256 by omega)]
  simp only [bd_s, br_not, br_t, bne_self_eq_false, br_f, e, List.nil_append]
theorem i_zeroed (n k : Nat) (h : k ≤ 2147483648) : f108_i_zeros (n + 1) (k : Int) = some (k, fls .f32 (List.replicate k 0)) := by
  rw [f108_i_zeros, decide_eq_true (show (0 : Int) ≤ (k : Int) ∧ (k : Int) ≤ 2147483648 by omega), gd_t, Int.toNat_natCast, reps_fls]

theorem i_emptyline (n k : Nat) (h : 1 ≤ k ∧ k ≤ 64) : f66_i_EmptyLine (n + 3) (k : Int) = some (k, fls .f32 (List.replicate k 0), true) := by
  rw [f66_i_EmptyLine, i_length, decide_eq_true (show 1 ≤ (k : Int) ∧ (k : Int) ≤ 64 by omega), i_zeroed (n + 1) k (by omega)]
  rfl
theorem sixteen_w32 (x : Nat) : W32 (fdiv .f32 x 1098907648) := w32_fdiv _ _
theorem s_drawdelay (n : Nat) {bs : List Int} (hb : Bytes bs) {a : Int} (h0 : 0 ≤ a) (h1 : a ≤ 1125899906842500) (sd : Int) :
    ∃ (L : Nat) (fb dry wet : Nat) (fl : Bool) (a' sd' : Int), (1 ≤ L ∧ L ≤ 64) ∧ (W32 fb ∧ W32 dry ∧ W32 wet) ∧ (a ≤ a' ∧ a' ≤ a + 40) ∧ f132_s_l03DrawDelay (n + 6) bs.length (its .u8 bs) a sd = some ((L : Int), fb, dry, wet, fl, bs.length, its .u8 bs, a', sd') := by
  obtain ⟨r, a1, s1, hr, ha1, e1⟩ := s_pick (n + 3) hb h0 (by omega) sd 8
  obtain ⟨fl, a2, s2, ha2, e2⟩ := s_one (n + 2) hb (a := a1) (by omega) (by omega) s1 2
  obtain ⟨big, a3, s3, ha3, e3⟩ := s_one (n + 2) hb (a := a2) (by omega) (by omega) s2 12
  obtain ⟨q1, a4, s4, hq1, ha4, e4⟩ := s_pick (n + 3) hb (a := a3) (by omega) (by omega) s3 33
  obtain ⟨q2, a5, s5, hq2, ha5, e5⟩ := s_pick (n + 3) hb (a := a4) (by omega) (by omega) s4 17
  obtain ⟨q3, a6, s6, hq3, ha6, e6⟩ := s_pick (n + 3) hb (a := a5) (by omega) (by omega) s5 17
  obtain ⟨odd, a7, s7, ha7, e7⟩ := s_one (n + 2) hb (a := a6) (by omega) (by omega) s6 10
  obtain ⟨x, a8, s8, hx, ha8, e8⟩ := s_float n hb (a := a7) (by omega) (by omega) s7
  obtain ⟨k, rfl⟩ := Int.eq_ofNat_of_zero_le hr.1
  have hk : k < 8 := by have := hr.2.1 (by omega); omega
  have w1 : IntKind.i64.wrap (1 + (k : Int)) = ((k + 1 : Nat) : Int) := by rw [wrap64] <;> omega
  rw [f132_s_l03DrawDelay, e1]
  simp only [bd_s, e2, e3, e4, e5, e6, e7, e8, w1]
  cases big <;> cases odd
  · exact ⟨k + 1, _, _, _, fl, a7, s7, by omega, ⟨w32_fdiv _ _, w32_fdiv _ _, w32_fdiv _ _⟩, by omega, rfl⟩
  · exact ⟨k + 1, x, _, _, fl, a8, s8, by omega, ⟨hx, w32_fdiv _ _, w32_fdiv _ _⟩, by omega, rfl⟩
  · exact ⟨64, _, _, _, fl, a7, s7, by omega, ⟨w32_fdiv _ _, w32_fdiv _ _, w32_fdiv _ _⟩, by omega, rfl⟩
  · exact ⟨64, x, _, _, fl, a8, s8, by omega, ⟨hx, w32_fdiv _ _, w32_fdiv _ _⟩, by omega, rfl⟩


theorem mul_one32 {x : Nat} (hx : W32 x) (hf : fin32 x = true) : fmul .f32 x 1065353216 = x := by
  have hv := fin_val hf
  by_cases h0 : fval .f32 x = 0
  · rw [h0] at hv
    rcases val_zero_word hx.1 hv with rfl | rfl <;> decide
  · have e : fval .f32 x * 1 = fval .f32 x := Rat.mul_one _
    obtain ⟨s, m, i, h1, h2, h3, h4⟩ := hv
    have hb : mv m i < p2 (topE .f32) := by
      obtain ⟨a1, a2, a3⟩ := single_finite h1
      have q := (mv_lt (m := m) (n := 2 ^ 24) (e := i)).2 (by omega)
      rw [mv_pow] at q
      have q2 := p2_le (show i + ((24 : Nat) : Int) ≤ 128 by omega)
      show mv m i < p2 128
      grind
    have habs : fval .f32 x ≤ mv m i ∧ -(mv m i) ≤ fval .f32 x := by
      have := mv_nonneg m i
      cases s <;> simp only [sg_true, sg_false] at h2 <;> grind
    obtain ⟨R, q1, q2⟩ := mul_val (fin_val hf) val_one32 (B := mv m i) ⟨m, i, h3, h4, rfl⟩ hb (by rw [e]; exact habs.1) (by rw [e]; exact habs.2)
    rw [e] at q2
    have q3 := q1.near_eq q2 (fin_val hf).rep
    exact word_of_val (fmul_lt _ _ _) hx.1 q3 (fin_val hf) h0
theorem mul_one_all {x : Nat} (hx : W32 x) : fmul .f32 x 1065353216 = x := by
  cases hf : fin32 x
  · cases hn : isNaN .f32 x
    · have h1 := num_mag hn
      have h2 := hx.1
      unfold fin32 at hf
      simp only [decide_eq_false_iff_not] at hf
      have : x = 2139095040 ∨ x = 4286578688 := by omega
      rcases this with rfl | rfl <;> decide
    · have : x = qnan .f32 := by rw [← hx.2]; exact canon_nan hn
      rw [this]; decide
  · exact mul_one32 hx hf

def sumM (s : Nat) (xs : List Nat) : Nat := xs.foldl (fadd .f32) s
theorem w32_sum : ∀ (xs : List Nat) (s : Nat), W32 s → W32 (sumM s xs)
  | [], s, h => h
  | x :: xs, s, _ => w32_sum xs _ (w32_fadd _ _)
theorem i_sum_loop (n : Nat) (N : Nat) (cs : List T) : ∀ (zs p : List Nat) (s m : Nat), p.length + zs.length < 1048576 → zs.length < m →
    f104_i_sumOf.l0 n m N cs s (p ++ zs).length (fls .f32 (p ++ zs)) ((p ++ zs).length : Int) (p.length : Int) = some (sumM s zs) := by
  intro zs
  induction zs with
  | nil =>
    intro p s m _ hm
    obtain ⟨m, rfl⟩ : ∃ k, m = k + 1 := ⟨m - 1, by omega⟩
    rw [f104_i_sumOf.l0, lt_end]; rfl
  | cons z zs ih =>
    intro p s m hp hm
    obtain ⟨m, rfl⟩ : ∃ k, m = k + 1 := ⟨m - 1, by omega⟩
    rw [f104_i_sumOf.l0, lt_mid, in_mid, toNat_len, okAt_mid, fAt_mid, wrap_len (z := z) (show p.length < 4611686018427387904 by simp at hp; omega)]
    have := ih (p ++ [z]) (fadd .f32 s z) m (by simp at hp ⊢; omega) (by simp at hm; omega)
    simpa [br, gd, sumM] using this
theorem i_summed (n : Nat) (xs : List Nat) (hl : xs.length < 1048576) (hn : xs.length < n) : f104_i_sumOf (n + 1) xs.length (fls .f32 xs) = some (sumM 0 xs) := by
  have e := i_sum_loop n xs.length (fls .f32 xs) xs [] 0 n (by simpa using hl) (by omega)
  have e : f104_i_sumOf.l0 n n xs.length (fls .f32 xs) 0 xs.length (fls .f32 xs) (xs.length : Int) 0 = _ := e
  rw [f104_i_sumOf, e]; rfl

/-! points: a place and a value -/
def ptAt (ts : List (Int × Nat)) (i : Nat) : Int × Nat := ts.getD i (0, 0)
theorem pt_cells {ts : List (Int × Nat)} {i : Nat} (h : i < ts.length) : (tps ts)[i * 2]? = some (T.int .i64 (ptAt ts i).1) ∧ (tps ts)[i * 2 + 1]? = some (T.flt .f32 (ptAt ts i).2) := by
  have h1 := tps_at ts i
  have e : ts[i]? = some (ptAt ts i) := by unfold ptAt; simp [List.getD, h]
  rw [e] at h1
  exact h1
theorem okTP {ts : List (Int × Nat)} {i : Nat} (h : i < ts.length) : okAt [.int .i64, .flt .f32] (tps ts) (i * 2 + 0) = true := by
  obtain ⟨h1, h2⟩ := pt_cells h
  simp [okAt, h1, h2, isCK]
theorem okTI {ts : List (Int × Nat)} {i : Nat} (h : i < ts.length) : okAt [.int .i64] (tps ts) (i * 2 + 0) = true := by
  obtain ⟨h1, h2⟩ := pt_cells h
  simp [okAt, h1, isCK]
theorem okTF {ts : List (Int × Nat)} {i : Nat} (h : i < ts.length) : okAt [.flt .f32] (tps ts) (i * 2 + 1) = true := by
  obtain ⟨h1, h2⟩ := pt_cells h
  simp [okAt, h2, isCK]
theorem iTP {ts : List (Int × Nat)} {i : Nat} (h : i < ts.length) : iAt (tps ts) (i * 2 + 0) = (ptAt ts i).1 := by
  obtain ⟨h1, h2⟩ := pt_cells h
  simp [iAt, h1]
theorem fTP {ts : List (Int × Nat)} {i : Nat} (h : i < ts.length) : fAt (tps ts) (i * 2 + 1) = (ptAt ts i).2 := by
  obtain ⟨h1, h2⟩ := pt_cells h
  simp [fAt, h2]
theorem fTP0 {ts : List (Int × Nat)} {i : Nat} (h : i < ts.length) : fAt (tps ts) (i * 2 + 0 + 1) = (ptAt ts i).2 := fTP h
theorem pt_mem {ts : List (Int × Nat)} {i : Nat} (h : i < ts.length) : ptAt ts i ∈ ts := by
  have : ptAt ts i = ts[i] := by unfold ptAt; simp [List.getD, h]
  rw [this]; exact List.getElem_mem h
/-- the places of a lane grow -/
def Lane (ts : List (Int × Nat)) : Prop := 1 ≤ ts.length ∧ ts.length ≤ 12 ∧ (∀ t ∈ ts, 0 ≤ t.1 ∧ t.1 ≤ 100 ∧ Plain t.2) ∧ (∀ i, i + 1 < ts.length → (ptAt ts i).1 < (ptAt ts (i + 1)).1)
def between (p q : Int × Nat) (at_ : Int) : Nat := fadd .f32 p.2 (fmul .f32 (fsub .f32 q.2 p.2) (fdiv .f32 (FloatKind.f32.nearest (at_ - p.1)) (FloatKind.f32.nearest (q.1 - p.1))))
/-- the value of a lane from its place i on -/
def laneGo (ts : List (Int × Nat)) (at_ : Int) : Nat → Nat → Option Nat
  | 0, _ => none
  | j + 1, i => if at_ = (ptAt ts i).1 then some (ptAt ts i).2 else if at_ < (ptAt ts i).1 then some (between (ptAt ts (i - 1)) (ptAt ts i) at_) else laneGo ts at_ j (i + 1)
def laneM (ts : List (Int × Nat)) (at_ : Int) : Nat := if at_ ≤ (ptAt ts 0).1 then (ptAt ts 0).2 else (laneGo ts at_ (ts.length - 1) 1).getD (ptAt ts (ts.length - 1)).2

structure Del where
  L : Int
  fb : Nat
  dry : Nat
  wet : Nat
  fl : Bool
def delC (d : Del) : List T := [.int .i64 d.L, .flt .f32 d.fb, .flt .f32 d.dry, .flt .f32 d.wet, .bool d.fl]
def dels (ds : List Del) : List T := ds.flatMap delC
def dAt (ds : List Del) (i : Nat) : Del := ds.getD i ⟨1, 0, 0, 0, false⟩
theorem del_get {c : Nat} (hc : c < 5) : ∀ (ts : List Del) (i : Nat), i < ts.length → (dels ts)[i * 5 + c]? = (delC (dAt ts i))[c]?
  | [], i, h => by simp at h
  | t :: ts, 0, _ => by
    show (delC t ++ dels ts)[0 * 5 + c]? = _
    rw [List.getElem?_append_left (by simp [delC]; omega), Nat.zero_mul, Nat.zero_add]; rfl
  | t :: ts, i + 1, h => by
    show (delC t ++ dels ts)[(i + 1) * 5 + c]? = _
    rw [List.getElem?_append_right (by simp [delC]; omega), show (i + 1) * 5 + c - (delC t).length = i * 5 + c by simp [delC]; omega, del_get hc ts i (by simpa using h)]
    rfl
section
variable {ts : List Del} {i : Nat} (h : i < ts.length)
include h
theorem okD : okAt [.int .i64, .flt .f32, .flt .f32, .flt .f32, .bool] (dels ts) (i * 5 + 0) = true := by
  have h0 := del_get (c := 0) (by decide) ts i h
  have h1 := del_get (c := 1) (by decide) ts i h
  have h2 := del_get (c := 2) (by decide) ts i h
  have h3 := del_get (c := 3) (by decide) ts i h
  have h4 := del_get (c := 4) (by decide) ts i h
  simp only [delC, List.getElem?_cons_zero, List.getElem?_cons_succ] at h0 h1 h2 h3 h4
  rw [Nat.add_zero] at h0
  simp [okAt, Nat.add_assoc, h0, h1, h2, h3, h4, isCK]
theorem iD : iAt (dels ts) (i * 5 + 0) = (dAt ts i).L := by unfold iAt; rw [del_get (c := 0) (by decide) ts i h]; rfl
theorem fD1 : fAt (dels ts) (i * 5 + 0 + 1) = (dAt ts i).fb := by unfold fAt; rw [show i * 5 + 0 + 1 = i * 5 + 1 from rfl, del_get (c := 1) (by decide) ts i h]; rfl
theorem fD2 : fAt (dels ts) (i * 5 + 0 + 1 + 1) = (dAt ts i).dry := by unfold fAt; rw [show i * 5 + 0 + 1 + 1 = i * 5 + 2 from rfl, del_get (c := 2) (by decide) ts i h]; rfl
theorem fD3 : fAt (dels ts) (i * 5 + 0 + 1 + 1 + 1) = (dAt ts i).wet := by unfold fAt; rw [show i * 5 + 0 + 1 + 1 + 1 = i * 5 + 3 from rfl, del_get (c := 3) (by decide) ts i h]; rfl
theorem bD : bAt (dels ts) (i * 5 + 0 + 1 + 1 + 1 + 1) = (dAt ts i).fl := by unfold bAt; rw [show i * 5 + 0 + 1 + 1 + 1 + 1 = i * 5 + 4 from rfl, del_get (c := 4) (by decide) ts i h]; rfl
theorem del_drop : ts.drop i = dAt ts i :: ts.drop (i + 1) := by
  rw [List.drop_eq_getElem_cons h]
  simp [dAt, List.getD, h]
theorem dAt_mem : dAt ts i ∈ ts := by
  have : dAt ts i = ts[i] := by simp [dAt, List.getD, h]
  rw [this]; exact List.getElem_mem h
end
theorem pt_drop {ts : List (Int × Nat)} {i : Nat} (h : i < ts.length) : ts.drop i = ptAt ts i :: ts.drop (i + 1) := by
  rw [List.drop_eq_getElem_cons h]
  simp [ptAt, List.getD, h]
theorem push_del (acc : List Del) (t : Del) : dels acc ++ setN (reps 1 [(T.int .i64 (0 : Int)), (T.flt .f32 0), (T.flt .f32 0), (T.flt .f32 0), (T.bool false)]) 0 (delC t) = dels (acc ++ [t]) := by
  unfold dels
  rw [List.flatMap_append, List.flatMap_singleton]; rfl
/-! ### draws -/
theorem s_combs_loop (n : Nat) {bs : List Int} (hb : Bytes bs) (n5 : Nat) (l6 : List T) (n7 : Nat) (l8 : List T) (x9 x10 n13 : Nat) (l14 : List T) (x15 x16 : Nat) : ∀ (j m : Nat) (a sd : Int) (acc : List Del), 0 ≤ a → a + 1000 * (j : Int) ≤ 1125899906840000 → acc.length + j ≤ 1000 → j < m →
    ∃ (ts : List Del) (a' sd' : Int), ts.length = acc.length + j ∧ (a ≤ a' ∧ a' ≤ a + 40 * (j : Int)) ∧ f152_s_l03DrawRoom.l0 (n + 6) m bs.length (its .u8 bs) a sd n5 l6 n7 l8 x9 x10 acc.length (dels acc) n13 l14 x15 x16 (j : Int) = some (bs.length, its .u8 bs, a', sd', n5, l6, n7, l8, x9, x10, ts.length, dels ts, n13, l14, x15, x16) := by
  intro j
  induction j with
  | zero =>
    intro m a sd acc _ _ _ hm
    obtain ⟨m, rfl⟩ : ∃ k, m = k + 1 := ⟨m - 1, by omega⟩
    rw [f152_s_l03DrawRoom.l0]
    exact ⟨acc, a, sd, by omega, by omega, rfl⟩
  | succ j ih =>
    intro m a sd acc h0 h1 hl hm
    obtain ⟨m, rfl⟩ : ∃ k, m = k + 1 := ⟨m - 1, by omega⟩
    obtain ⟨L, fb, dry, wet, fl, a1, s1, -, -, ha1, e1⟩ := s_drawdelay n hb h0 (by omega) sd
    rw [f152_s_l03DrawRoom.l0, decide_eq_true (show (((j + 1 : Nat) : Int) > 0) by omega), show IntKind.i64.wrap (((j + 1 : Nat) : Int) - 1) = (j : Int) by rw [wrap64] <;> omega]
    obtain ⟨ts, a2, s2, q1, q2, q3⟩ := ih m a1 s1 (acc ++ [⟨L, fb, dry, wet, fl⟩]) (by omega) (by omega) (by simp; omega) (by omega)
    refine ⟨ts, a2, s2, by simp at q1; omega, by omega, ?_⟩
    have hp := push_del acc ⟨L, fb, dry, wet, fl⟩
    unfold delC at hp
    simp only [br_t, e1, bd_s, push_ok (show acc.length < 2147483648 by omega), gd_t]
    rw [hp, push_len (z := (⟨L, fb, dry, wet, fl⟩ : Del))]
    exact q3
theorem s_passes_loop (n : Nat) {bs : List Int} (hb : Bytes bs) (n5 : Nat) (l6 : List T) (n7 : Nat) (l8 : List T) (x9 x10 n11 : Nat) (l12 : List T) (x15 x16 : Nat) : ∀ (j m : Nat) (a sd : Int) (acc : List (Int × Nat)), 0 ≤ a → a + 1000 * (j : Int) ≤ 1125899906840000 → acc.length + j ≤ 1000 → j < m →
    ∃ (ts : List (Int × Nat)) (a' sd' : Int), ts.length = acc.length + j ∧ (a ≤ a' ∧ a' ≤ a + 40 * (j : Int)) ∧ f152_s_l03DrawRoom.l1 (n + 6) m bs.length (its .u8 bs) a sd n5 l6 n7 l8 x9 x10 n11 l12 acc.length (tps acc) x15 x16 (j : Int) = some (bs.length, its .u8 bs, a', sd', n5, l6, n7, l8, x9, x10, n11, l12, ts.length, tps ts, x15, x16) := by
  intro j
  induction j with
  | zero =>
    intro m a sd acc _ _ _ hm
    obtain ⟨m, rfl⟩ : ∃ k, m = k + 1 := ⟨m - 1, by omega⟩
    rw [f152_s_l03DrawRoom.l1]
    exact ⟨acc, a, sd, by omega, by omega, rfl⟩
  | succ j ih =>
    intro m a sd acc h0 h1 hl hm
    obtain ⟨m, rfl⟩ : ∃ k, m = k + 1 := ⟨m - 1, by omega⟩
    obtain ⟨r1, a1, s1, hr1, ha1, e1⟩ := s_pick (n + 4) hb h0 (by omega) sd 6
    obtain ⟨r2, a2, s2, hr2, ha2, e2⟩ := s_pick (n + 4) hb (a := a1) (by omega) (by omega) s1 17
    rw [f152_s_l03DrawRoom.l1, decide_eq_true (show (((j + 1 : Nat) : Int) > 0) by omega), show IntKind.i64.wrap (((j + 1 : Nat) : Int) - 1) = (j : Int) by rw [wrap64] <;> omega]
    obtain ⟨ts, a3, s3, q1, q2, q3⟩ := ih m a2 s2 (acc ++ [(IntKind.i64.wrap ((1 : Int) + r1), fdiv .f32 (FloatKind.f32.nearest (IntKind.i64.wrap (r2 - (8 : Int)))) 1098907648)]) (by omega) (by omega) (by simp; omega) (by omega)
    refine ⟨ts, a3, s3, by simp at q1; omega, by omega, ?_⟩
    simp only [br_t, e1, e2, bd_s, push_ok (show acc.length < 2147483648 by omega), gd_t, push_tap]
    rw [push_len (z := (IntKind.i64.wrap ((1 : Int) + r1), fdiv .f32 (FloatKind.f32.nearest (IntKind.i64.wrap (r2 - (8 : Int)))) 1098907648))]
    exact q3
theorem s_drawroom (n : Nat) {bs : List Int} (hb : Bytes bs) (hn : 100 < n) : ∃ (ds : List Del) (ps : List (Int × Nat)) (dry wet : Nat) (a' sd' : Int), ds.length ≤ 100 ∧ ps.length ≤ 100 ∧ f152_s_l03DrawRoom (n + 7) bs.length (its .u8 bs) 0 0 = some (ds.length, dels ds, ps.length, tps ps, dry, wet, bs.length, its .u8 bs, a', sd') := by
  obtain ⟨r1, a1, s1, hr1, ha1, e1⟩ := s_pick (n + 4) hb (a := 0) (by omega) (by omega) 0 3
  obtain ⟨r1, rfl⟩ := Int.eq_ofNat_of_zero_le hr1.1
  have hr1' := hr1.2.1 (by omega)
  obtain ⟨ds, a2, s2, hds, ha2, e2⟩ := s_combs_loop n hb 0 [] 0 [] 0 0 0 [] 0 0 (1 + r1) (n + 6) a1 s1 [] (by omega) (by omega) (by simp; omega) (by omega)
  have e2 : f152_s_l03DrawRoom.l0 (n + 6) (n + 6) bs.length (its .u8 bs) a1 s1 0 [] 0 [] 0 0 0 [] 0 [] 0 0 ((1 + r1 : Nat) : Int) = _ := e2
  have hds : ds.length = 1 + r1 := by simpa using hds
  obtain ⟨r2, a3, s3, hr2, ha3, e3⟩ := s_pick (n + 4) hb (a := a2) (by omega) (by omega) s2 3
  obtain ⟨r2, rfl⟩ := Int.eq_ofNat_of_zero_le hr2.1
  have hr2' := hr2.2.1 (by omega)
  obtain ⟨ps, a4, s4, hps, ha4, e4⟩ := s_passes_loop n hb 0 [] 0 [] 0 0 ds.length (dels ds) 0 0 r2 (n + 6) a3 s3 [] (by omega) (by omega) (by simp; omega) (by omega)
  have e4 : f152_s_l03DrawRoom.l1 (n + 6) (n + 6) bs.length (its .u8 bs) a3 s3 0 [] 0 [] 0 0 ds.length (dels ds) 0 [] 0 0 (r2 : Int) = _ := e4
  have hps : ps.length = r2 := by simpa using hps
  obtain ⟨dry, a5, s5, -, ha5, e5⟩ := s_plain (n + 2) hb (a := a4) (by omega) (by omega) s4
  obtain ⟨wet, a6, s6, -, ha6, e6⟩ := s_plain (n + 2) hb (a := a5) (by omega) (by omega) s5
  obtain ⟨r3, a7, s7, hr3, ha7, e7⟩ := s_pick (n + 4) hb (a := a6) (by omega) (by omega) s6 30
  obtain ⟨r4, a8, s8, -, ha8, e8⟩ := s_among (n + 3) hb (a := a7) (by omega) (by omega) s7 [0, -1, 65] (by decide)
  have e8 : f168_s_l00Srcamong (n + 6) bs.length (its .u8 bs) a7 s7 3 (setN (setN (setN (reps 3 [(T.int .i64 (0 : Int))]) 0 [(T.int .i64 (0 : Int))]) 1 [(T.int .i64 (-1 : Int))]) 2 [(T.int .i64 (65 : Int))]) = _ := e8
  have w1 : IntKind.i64.wrap ((1 : Int) + (r1 : Int)) = ((1 + r1 : Nat) : Int) := by rw [wrap64] <;> omega
  rw [f152_s_l03DrawRoom]
  simp only [bd_s, e1, w1, e2, e3, e4, e5, e6, e7]
  cases h0 : r3 == (0 : Int)
  · cases h1 : r3 == (1 : Int)
    · cases h2 : r3 == (2 : Int)
      · exact ⟨ds, ps, dry, wet, a7, s7, by omega, by omega, rfl⟩
      · simp only [br_t, br_f, push_ok (show ps.length < 2147483648 by omega), gd_t, push_tap]
        refine ⟨ds, ps ++ [(0, 0)], dry, wet, a7, s7, by omega, by simp; omega, ?_⟩
        rw [push_len (z := ((0 : Int), 0))]
    · obtain ⟨d, ds', rfl⟩ : ∃ d ds', ds = d :: ds' := by cases ds with
        | nil => simp at hds; omega
        | cons d ds' => exact ⟨d, ds', rfl⟩
      have g1 : decide ((0 : Int) ≤ 0 ∧ (0 : Int) < (((d :: ds').length : Nat) : Int)) = true := decide_eq_true (by simp <;> omega)
      have g2 : Nat.ble 1 (dels (d :: ds')).length = true := by rw [Nat.ble_eq]; simp [dels, delC] <;> omega
      simp only [br_t, br_f, e8, bd_s, g1, g2, gd_t]
      exact ⟨⟨r4, d.fb, d.dry, d.wet, d.fl⟩ :: ds', ps, dry, wet, a8, s8, by simpa using (by omega : (d :: ds').length ≤ 100), by omega, rfl⟩
  · exact ⟨[], ps, dry, wet, a7, s7, by simp, by omega, rfl⟩
def okL (L : Int) : Bool := decide (1 ≤ L ∧ L ≤ 64)
theorem s_len (n : Nat) (L : Int) : f139_s_l03Length (n + 2) L = some (okL L) := by rw [f139_s_l03Length, s_in]; rfl
theorem s_is0 (n : Nat) (ds : List Del) (hl : ds.length ≤ 1000) (n3 : Nat) (l4 : List T) (x5 x6 : Nat) : ∀ (j i m : Nat), i + j = ds.length → j < m →
    f153_s_l03Is.l0 (n + 2) m ds.length (dels ds) n3 l4 x5 x6 (i : Int) = some (if (ds.drop i).all (fun d => okL d.L) = true then Sum.inr (ds.length, dels ds, n3, l4, x5, x6) else Sum.inl false) := by
  intro j
  induction j with
  | zero =>
    intro i m hi hm
    obtain ⟨m, rfl⟩ : ∃ k, m = k + 1 := ⟨m - 1, by omega⟩
    rw [f153_s_l03Is.l0, nlt_dec (by omega), List.drop_eq_nil_of_le (by omega)]; rfl
  | succ j ih =>
    intro i m hi hm
    obtain ⟨m, rfl⟩ : ∃ k, m = k + 1 := ⟨m - 1, by omega⟩
    have h : i < ds.length := by omega
    rw [f153_s_l03Is.l0, lt_dec h, in_dec h, Int.toNat_natCast, okD h, iD h, s_len, del_drop h, List.all_cons]
    simp only [br_t, Bool.and_self, gd_t, bd_s, wrap_succ (show i < 9223372036854775807 by omega)]
    cases okL (dAt ds i).L
    · rfl
    · simp only [Bool.not_true, br_f, Bool.true_and]
      exact ih (i + 1) m (by omega) (by omega)
theorem s_is1 (n : Nat) (ps : List (Int × Nat)) (hl : ps.length ≤ 1000) (n3 : Nat) (l4 : List T) (x5 x6 : Nat) : ∀ (j i m : Nat), i + j = ps.length → j < m →
    f153_s_l03Is.l1 (n + 2) m n3 l4 ps.length (tps ps) x5 x6 (i : Int) = some (if (ps.drop i).all (fun d => okL d.1) = true then Sum.inr (n3, l4, ps.length, tps ps, x5, x6) else Sum.inl false) := by
  intro j
  induction j with
  | zero =>
    intro i m hi hm
    obtain ⟨m, rfl⟩ : ∃ k, m = k + 1 := ⟨m - 1, by omega⟩
    rw [f153_s_l03Is.l1, nlt_dec (by omega), List.drop_eq_nil_of_le (by omega)]; rfl
  | succ j ih =>
    intro i m hi hm
    obtain ⟨m, rfl⟩ : ∃ k, m = k + 1 := ⟨m - 1, by omega⟩
    have h : i < ps.length := by omega
    rw [f153_s_l03Is.l1, lt_dec h, in_dec h, Int.toNat_natCast, okTP h, iTP h, s_len, pt_drop h, List.all_cons]
    simp only [br_t, Bool.and_self, gd_t, bd_s, wrap_succ (show i < 9223372036854775807 by omega)]
    cases okL (ptAt ps i).1
    · rfl
    · simp only [Bool.not_true, br_f, Bool.true_and]
      exact ih (i + 1) m (by omega) (by omega)
def isM (ds : List Del) (ps : List (Int × Nat)) : Bool := ds.all (fun d => okL d.L) && ps.all (fun d => okL d.1) && decide (1 ≤ ds.length) && decide (ds.length ≤ 4) && decide (ps.length ≤ 3)
theorem s_is (n : Nat) (ds : List Del) (ps : List (Int × Nat)) (x5 x6 : Nat) (h1 : ds.length ≤ 100) (h2 : ps.length ≤ 100) (hn : 200 < n) : f153_s_l03Is (n + 3) ds.length (dels ds) ps.length (tps ps) x5 x6 = some (isM ds ps) := by
  have e1 := s_is0 n ds (by omega) ps.length (tps ps) x5 x6 ds.length 0 (n + 2) (by omega) (by omega)
  have e1 : f153_s_l03Is.l0 (n + 2) (n + 2) ds.length (dels ds) ps.length (tps ps) x5 x6 0 = _ := e1
  have e2 := s_is1 n ps (by omega) ds.length (dels ds) x5 x6 ps.length 0 (n + 2) (by omega) (by omega)
  have e2 : f153_s_l03Is.l1 (n + 2) (n + 2) ds.length (dels ds) ps.length (tps ps) x5 x6 0 = _ := e2
  rw [List.drop_zero] at e1 e2
  rw [f153_s_l03Is, e1]
  unfold isM
  cases ds.all fun d => okL d.L
  · rfl
  · simp only [bd_s, if_true, sm_r, e2]
    cases ps.all fun d => okL d.1
    · rfl
    · simp only [bd_s, if_true, sm_r, Bool.true_and, Bool.and_self]
      have c1 : decide ((ds.length : Int) ≥ 1) = decide (1 ≤ ds.length) := decide_eq_decide.2 (by omega)
      have c2 : decide ((ds.length : Int) ≤ 4) = decide (ds.length ≤ 4) := decide_eq_decide.2 (by omega)
      have c3 : decide ((ps.length : Int) ≤ 3) = decide (ps.length ≤ 3) := decide_eq_decide.2 (by omega)
      rw [c1, c2, c3]
      cases decide (1 ≤ ds.length) <;> cases decide (ds.length ≤ 4) <;> cases decide (ps.length ≤ 3) <;> rfl
structure Rm where
  ds : List Del
  ps : List (Int × Nat)
  dry : Nat
  wet : Nat
def RmOk (R : Rm) : Prop := isM R.ds R.ps = true
theorem s_b10room (n : Nat) {bs : List Int} (hb : Bytes bs) (hn : 300 < n) : ∃ R : Rm, RmOk R ∧ f77_s_B10Room (n + 8) bs.length (its .u8 bs) = some (R.ds.length, dels R.ds, R.ps.length, tps R.ps, R.dry, R.wet) := by
  obtain ⟨ds, ps, dry, wet, a, sd, h1, h2, e⟩ := s_drawroom n hb (by omega)
  have e2 := s_is (n + 4) ds ps dry wet h1 h2 (by omega)
  rw [f77_s_B10Room, s_from]
  simp only [bd_s, e, e2]
  cases h : isM ds ps
  · exact ⟨⟨[⟨2, 1056964608, 0, 1065353216, false⟩], [], 0, 1065353216⟩, by show isM _ _ = true; decide, rfl⟩
  · exact ⟨⟨ds, ps, dry, wet⟩, h, rfl⟩
/-! ### a room's lengths -/
def lens (R : Rm) : List Int := R.ds.map (·.L) ++ R.ps.map (·.1)
theorem RmOk.facts {R : Rm} (h : RmOk R) : (∀ z ∈ lens R, 1 ≤ z ∧ z ≤ 64) ∧ 1 ≤ R.ds.length ∧ R.ds.length ≤ 4 ∧ R.ps.length ≤ 3 := by
  unfold RmOk isM at h
  simp only [Bool.and_eq_true, decide_eq_true_eq, List.all_eq_true, okL] at h
  obtain ⟨⟨⟨⟨h1, h2⟩, h3⟩, h4⟩, h5⟩ := h
  refine ⟨fun z hz => ?_, h3, h4, h5⟩
  simp only [lens, List.mem_append, List.mem_map] at hz
  rcases hz with ⟨d, hd, rfl⟩ | ⟨d, hd, rfl⟩
  · exact h1 d hd
  · exact h2 d hd
theorem lens0 (n : Nat) (N : Nat) (cs : List T) (n3 : Nat) (l4 : List T) (x5 x6 : Nat) (ds : List Del) (hl : ds.length ≤ 1000) : ∀ (j i m : Nat) (P : List Int), i + j = ds.length → P.length ≤ i → j < m →
    f157_i_Roomlengths.l0 n m N cs n3 l4 x5 x6 P.length (its .i64 P) ds.length (dels ds) (ds.length : Int) (i : Int) = some (N, cs, n3, l4, x5, x6, (P ++ (ds.drop i).map (·.L)).length, its .i64 (P ++ (ds.drop i).map (·.L))) := by
  intro j
  induction j with
  | zero =>
    intro i m P hi hP hm
    obtain ⟨m, rfl⟩ : ∃ k, m = k + 1 := ⟨m - 1, by omega⟩
    rw [f157_i_Roomlengths.l0, nlt_dec (by omega), List.drop_eq_nil_of_le (by omega)]
    simp [br]
  | succ j ih =>
    intro i m P hi hP hm
    obtain ⟨m, rfl⟩ : ∃ k, m = k + 1 := ⟨m - 1, by omega⟩
    have h : i < ds.length := by omega
    rw [f157_i_Roomlengths.l0, lt_dec h, in_dec h, Int.toNat_natCast, okD h, iD h]
    simp only [br_t, Bool.and_self, gd_t, push_ok (show P.length < 2147483648 by omega), push_its, wrap_succ (show i < 9223372036854775807 by omega)]
    rw [push_len (z := (dAt ds i).L), ih (i + 1) m _ (by omega) (by simp; omega) (by omega), del_drop h]
    simp
theorem lens1 (n : Nat) (N : Nat) (cs : List T) (n3 : Nat) (l4 : List T) (x5 x6 : Nat) (ps : List (Int × Nat)) (hl : ps.length ≤ 1000) : ∀ (j i m : Nat) (P : List Int), i + j = ps.length → P.length ≤ 1000 + i → j < m →
    f157_i_Roomlengths.l1 n m N cs n3 l4 x5 x6 P.length (its .i64 P) ps.length (tps ps) (ps.length : Int) (i : Int) = some ((P ++ (ps.drop i).map (·.1)).length, its .i64 (P ++ (ps.drop i).map (·.1))) := by
  intro j
  induction j with
  | zero =>
    intro i m P hi hP hm
    obtain ⟨m, rfl⟩ : ∃ k, m = k + 1 := ⟨m - 1, by omega⟩
    rw [f157_i_Roomlengths.l1, nlt_dec (by omega), List.drop_eq_nil_of_le (by omega)]
    simp [br]
  | succ j ih =>
    intro i m P hi hP hm
    obtain ⟨m, rfl⟩ : ∃ k, m = k + 1 := ⟨m - 1, by omega⟩
    have h : i < ps.length := by omega
    rw [f157_i_Roomlengths.l1, lt_dec h, in_dec h, Int.toNat_natCast, okTP h, iTP h]
    simp only [br_t, Bool.and_self, gd_t, push_ok (show P.length < 2147483648 by omega), push_its, wrap_succ (show i < 9223372036854775807 by omega)]
    rw [push_len (z := (ptAt ps i).1), ih (i + 1) m _ (by omega) (by simp; omega) (by omega), pt_drop h]
    simp
theorem i_lens (n : Nat) {R : Rm} (hR : RmOk R) (hn : 100 < n) : f157_i_Roomlengths (n + 1) R.ds.length (dels R.ds) R.ps.length (tps R.ps) R.dry R.wet = some ((lens R).length, its .i64 (lens R)) := by
  obtain ⟨-, h1, h2, h3⟩ := hR.facts
  have e1 := lens0 n R.ds.length (dels R.ds) R.ps.length (tps R.ps) R.dry R.wet R.ds (by omega) R.ds.length 0 n [] (by omega) (by simp) (by omega)
  have e2 := lens1 n R.ds.length (dels R.ds) R.ps.length (tps R.ps) R.dry R.wet R.ps (by omega) R.ps.length 0 n (R.ds.map (·.L)) (by omega) (by simp; omega) (by omega)
  simp only [List.drop_zero, List.nil_append] at e1 e2
  have e1 : f157_i_Roomlengths.l0 n n R.ds.length (dels R.ds) R.ps.length (tps R.ps) R.dry R.wet 0 [] R.ds.length (dels R.ds) (R.ds.length : Int) 0 = _ := e1
  have e2 : f157_i_Roomlengths.l1 n n R.ds.length (dels R.ds) R.ps.length (tps R.ps) R.dry R.wet (R.ds.map (·.L)).length (its .i64 (R.ds.map (·.L))) R.ps.length (tps R.ps) (R.ps.length : Int) 0 = _ := e2
  rw [f157_i_Roomlengths, e1]
  simp only [bd_s, e2]
  rfl
theorem lens_length (R : Rm) : (lens R).length = R.ds.length + R.ps.length := by simp [lens]
theorem i_valid (n : Nat) {R : Rm} (hR : RmOk R) (hn : 100 < n) : f80_i_ValidRoom (n + 4) R.ds.length (dels R.ds) R.ps.length (tps R.ps) R.dry R.wet = some true := by
  obtain ⟨h0, h1, h2, h3⟩ := hR.facts
  have hl := lens_length R
  rw [f80_i_ValidRoom, i_sized]
  simp only [bd_s, i_in, decide_eq_true (show (1 : Int) ≤ (R.ds.length : Int) ∧ (R.ds.length : Int) ≤ 4 by omega), br_t, decide_eq_true (show (R.ps.length : Int) ≤ 3 by omega), i_lens (n + 2) hR (by omega), i_allin (n + 1) (lens R) 1 64 h0 (by omega) (by omega)]
/-! ### lines -/
def row (ls : List (List Nat)) (i : Nat) : List Nat := ls.getD i []
section
variable {ls : List (List Nat)} {i : Nat} (h : i < ls.length)
include h
theorem row_get : (ls.map rwF)[i]? = some (rwF (row ls i)) := by simp [row, List.getD, h]
theorem okR : okAt [.lst] (ls.map rwF) i = true := by simp [okAt, row_get h, isCK, rwF]
theorem nR : nAt (ls.map rwF) i = (row ls i).length := by unfold nAt; rw [row_get h]; rfl
theorem lR : lAt (ls.map rwF) i = fls .f32 (row ls i) := by unfold lAt; rw [row_get h]; rfl
theorem bleR : Nat.ble (i + 1) (ls.map rwF).length = true := by rw [Nat.ble_eq]; simp; omega
theorem row_drop : ls.drop i = row ls i :: ls.drop (i + 1) := by
  rw [List.drop_eq_getElem_cons h]
  simp [row, List.getD, h]
end
theorem set_rw {ls : List (List Nat)} {i : Nat} {r : List Nat} : setN (ls.map rwF) i [T.lst r.length (fls .f32 r)] = (ls.set i r).map rwF := by
  rw [setN_one, List.map_set]; rfl
theorem push_rw (P : List (List Nat)) (r : List Nat) : P.map rwF ++ setN (reps 1 [(T.lst 0 [])]) 0 [T.lst r.length (fls .f32 r)] = (P ++ [r]).map rwF := by
  rw [List.map_append]; rfl
def Lok (Ls : List Int) (ls : List (List Nat)) : Prop := ls.length = Ls.length ∧ ∀ i, i < ls.length → ((row ls i).length : Int) = Ls.getD i 0 ∧ AllW (row ls i)
theorem row_set {ls : List (List Nat)} {i j : Nat} {r : List Nat} (hj : j < ls.length) : row (ls.set i r) j = if i = j then r else row ls j := by
  unfold row
  by_cases h : i = j
  · subst h; simp [List.getD, hj]
  · simp [List.getD, h, List.getElem?_set_ne]
theorem Lok.set {Ls : List Int} {ls : List (List Nat)} (h : Lok Ls ls) {i : Nat} {r : List Nat} (hi : i < ls.length) (hr : r.length = (row ls i).length) (hw : AllW r) : Lok Ls (ls.set i r) := by
  refine ⟨by rw [List.length_set]; exact h.1, fun j hj => ?_⟩
  rw [List.length_set] at hj
  rw [row_set hj]
  by_cases e : i = j
  · subst e; rw [if_pos rfl, hr]; exact ⟨(h.2 i hi).1, hw⟩
  · rw [if_neg e]; exact h.2 j hj
theorem Lok.small {Ls : List Int} {ls : List (List Nat)} (h : Lok Ls ls) (hL : ∀ z ∈ Ls, 1 ≤ z ∧ z ≤ 64) {i : Nat} (hi : i < ls.length) : 0 < (row ls i).length ∧ (row ls i).length ≤ 64 := by
  have h1 := (h.2 i hi).1
  have hi' : i < Ls.length := by rw [← h.1]; exact hi
  have e : Ls.getD i 0 = Ls[i] := by simp [List.getD, hi']
  have h2 := hL _ (List.getElem_mem hi')
  rw [e] at h1
  omega
def emptyM (Ls : List Int) : List (List Nat) := Ls.map fun z => List.replicate z.toNat 0
theorem empty_ok {Ls : List Int} (hL : ∀ z ∈ Ls, 1 ≤ z ∧ z ≤ 64) : Lok Ls (emptyM Ls) := by
  refine ⟨by simp [emptyM], fun i hi => ?_⟩
  have hi' : i < Ls.length := by simpa [emptyM] using hi
  have e : Ls.getD i 0 = Ls[i] := by simp [List.getD, hi']
  have h2 := hL _ (List.getElem_mem hi')
  have er : row (emptyM Ls) i = List.replicate (Ls[i]).toNat 0 := by simp [row, emptyM, List.getD, hi']
  rw [er, e, List.length_replicate]
  refine ⟨by omega, fun y hy => ?_⟩
  obtain ⟨-, rfl⟩ := List.mem_replicate.1 hy
  exact w32_zero
theorem its_drop_at {Ls : List Int} {i : Nat} (h : i < Ls.length) : Ls.drop i = Ls.getD i 0 :: Ls.drop (i + 1) := by
  rw [List.drop_eq_getElem_cons h]
  simp [List.getD, h]
theorem its_mem_at {Ls : List Int} {i : Nat} (h : i < Ls.length) : Ls.getD i 0 ∈ Ls := by
  have : Ls.getD i 0 = Ls[i] := by simp [List.getD, h]
  rw [this]; exact List.getElem_mem h
theorem empty_loop (n : Nat) (Ls : List Int) (hL : ∀ z ∈ Ls, 1 ≤ z ∧ z ≤ 64) (hl : Ls.length ≤ 1000) : ∀ (j i m : Nat) (P : List (List Nat)), i + j = Ls.length → P.length ≤ i → j < m →
    f154_i_Roomempty.l0 (n + 1) m P.length (P.map rwF) Ls.length (its .i64 Ls) (Ls.length : Int) (i : Int) = some ((P ++ emptyM (Ls.drop i)).length, (P ++ emptyM (Ls.drop i)).map rwF) := by
  intro j
  induction j with
  | zero =>
    intro i m P hi hP hm
    obtain ⟨m, rfl⟩ : ∃ k, m = k + 1 := ⟨m - 1, by omega⟩
    rw [f154_i_Roomempty.l0, nlt_dec (by omega), List.drop_eq_nil_of_le (by omega)]
    simp [br, emptyM]
  | succ j ih =>
    intro i m P hi hP hm
    obtain ⟨m, rfl⟩ : ∃ k, m = k + 1 := ⟨m - 1, by omega⟩
    have h : i < Ls.length := by omega
    have hz := hL _ (its_mem_at h)
    have hd := its_drop_at h
    rw [f154_i_Roomempty.l0, lt_dec h, in_dec h, Int.toNat_natCast, okAt_its h, iAt_its, hd]
    generalize Ls.getD i 0 = z at hz
    obtain ⟨k, rfl⟩ := Int.eq_ofNat_of_zero_le (show 0 ≤ z by omega)
    have hp := push_rw P (List.replicate k 0)
    rw [List.length_replicate] at hp
    simp only [br_t, gd_t, i_zeroed n k (by omega), bd_s, push_ok (show P.length < 2147483648 by omega), hp, wrap_succ (show i < 9223372036854775807 by omega)]
    rw [push_len (z := List.replicate k 0), ih (i + 1) m _ (by omega) (by simp; omega) (by omega)]
    simp [emptyM]
theorem i_empty (n : Nat) {R : Rm} (hR : RmOk R) (hn : 200 < n) : f154_i_Roomempty (n + 3) R.ds.length (dels R.ds) R.ps.length (tps R.ps) R.dry R.wet = some ((emptyM (lens R)).length, (emptyM (lens R)).map rwF) := by
  obtain ⟨h0, h1, h2, h3⟩ := hR.facts
  have hl := lens_length R
  have e := empty_loop (n + 1) (lens R) h0 (by omega) (lens R).length 0 (n + 2) [] (by omega) (by simp) (by omega)
  simp only [List.drop_zero, List.nil_append] at e
  have e : f154_i_Roomempty.l0 (n + 2) (n + 2) 0 [] (lens R).length (its .i64 (lens R)) ((lens R).length : Int) 0 = _ := e
  rw [f154_i_Roomempty, i_lens (n + 1) hR (by omega)]
  simp only [bd_s, e]
theorem lines_loop (n : Nat) (N : Nat) (cs : List T) (Ls : List Int) (ls : List (List Nat)) (h : Lok Ls ls) (hl : Ls.length ≤ 1000) : ∀ (j i m : Nat), i + j = ls.length → j < m →
    f155_i_RoomareLines.l0 (n + 1) m N cs Ls.length (its .i64 Ls) ls.length (ls.map rwF) (ls.length : Int) (i : Int) = some (Sum.inr ()) := by
  intro j
  have hlen := h.1
  induction j with
  | zero =>
    intro i m hi hm
    obtain ⟨m, rfl⟩ : ∃ k, m = k + 1 := ⟨m - 1, by omega⟩
    rw [f155_i_RoomareLines.l0, nlt_dec (by omega)]; rfl
  | succ j ih =>
    intro i m hi hm
    obtain ⟨m, rfl⟩ : ∃ k, m = k + 1 := ⟨m - 1, by omega⟩
    have hi' : i < ls.length := by omega
    have hq : (((row ls i).length : Int) != Ls.getD i 0) = false := by rw [(h.2 i hi').1]; simp
    rw [f155_i_RoomareLines.l0, lt_dec hi', in_dec hi', in_dec (show i < Ls.length by omega), Int.toNat_natCast, okR hi', okAt_its (show i < Ls.length by omega), iAt_its, nR hi']
    simp only [br_t, Bool.and_self, gd_t, i_sized n, bd_s, hq, br_f, wrap_succ (show i < 9223372036854775807 by omega)]
    exact ih (i + 1) m (by omega) (by omega)
theorem i_lines (n : Nat) {R : Rm} (hR : RmOk R) {ls : List (List Nat)} (h : Lok (lens R) ls) (hn : 200 < n) : f155_i_RoomareLines (n + 3) R.ds.length (dels R.ds) R.ps.length (tps R.ps) R.dry R.wet ls.length (ls.map rwF) = some true := by
  obtain ⟨h0, h1, h2, h3⟩ := hR.facts
  have hl := lens_length R
  have e := lines_loop (n + 1) ls.length (ls.map rwF) (lens R) ls h (by omega) ls.length 0 (n + 2) (by omega) (by have := h.1; omega)
  have e : f155_i_RoomareLines.l0 (n + 2) (n + 2) ls.length (ls.map rwF) (lens R).length (its .i64 (lens R)) ls.length (ls.map rwF) (ls.length : Int) 0 = _ := e
  have q : (((ls.length : Nat) : Int) != (((lens R).length : Nat) : Int)) = false := by rw [h.1]; simp
  rw [f155_i_RoomareLines, i_lens (n + 1) hR (by omega)]
  simp only [bd_s, q, br_f, e, sm_r]
/-! ### a room's run -/
theorem copies_loop (n : Nat) (n1 : Nat) (l2 : List T) (n3 : Nat) (l4 : List T) (n5 : Nat) (l6 : List T) (n7 : Nat) (l8 : List T) (x9 x10 : Nat) (ls : List (List Nat)) (hl : ls.length ≤ 1000) (hs : ∀ i, i < ls.length → (row ls i).length ≤ 64) : ∀ (j i m : Nat) (P : List (List Nat)), i + j = ls.length → P.length ≤ i → j < m →
    f156_i_Roomrun.l0 (n + 1) m n1 l2 n3 l4 n5 l6 n7 l8 x9 x10 P.length (P.map rwF) ls.length (ls.map rwF) (ls.length : Int) (i : Int) = some (n3, l4, n5, l6, n7, l8, x9, x10, (P ++ ls.drop i).length, (P ++ ls.drop i).map rwF) := by
  intro j
  induction j with
  | zero =>
    intro i m P hi hP hm
    obtain ⟨m, rfl⟩ : ∃ k, m = k + 1 := ⟨m - 1, by omega⟩
    rw [f156_i_Roomrun.l0, nlt_dec (by omega), List.drop_eq_nil_of_le (by omega)]
    simp [br]
  | succ j ih =>
    intro i m P hi hP hm
    obtain ⟨m, rfl⟩ : ∃ k, m = k + 1 := ⟨m - 1, by omega⟩
    have h : i < ls.length := by omega
    have hs' := hs i h
    rw [f156_i_Roomrun.l0, lt_dec h, in_dec h, Int.toNat_natCast, okR h, nR h, lR h]
    simp only [br_t, Bool.and_self, gd_t, i_copy n (row ls i) (by omega), bd_s, push_ok (show P.length < 2147483648 by omega), push_rw, wrap_succ (show i < 9223372036854775807 by omega)]
    rw [push_len (z := row ls i), ih (i + 1) m _ (by omega) (by simp; omega) (by omega), row_drop h]
    simp
def stepD (d : Del) (w : List Nat) (x : Nat) : Nat × List Nat := delayStep d.fb d.dry d.wet d.fl w x
theorem stepD_facts {d : Del} {w : List Nat} {x : Nat} (h : 0 < w.length) (hw : AllW w) : (stepD d w x).2.length = w.length ∧ AllW (stepD d w x).2 := ⟨took_length h, allW_took hw (w32_fl? (w32_fadd _ _))⟩
theorem stepP_facts {ga : Nat} {w : List Nat} {x : Nat} (h : 0 < w.length) (hw : AllW w) : (passStep ga w x).2.length = w.length ∧ AllW (passStep ga w x).2 := ⟨took_length h, allW_took hw (w32_fadd _ _)⟩
def combGo (ds : List Del) (x : Nat) : Nat → Nat → List (List Nat) → List Nat → List (List Nat) × List Nat
  | 0, _, ls, acc => (ls, acc)
  | j + 1, i, ls, acc => combGo ds x j (i + 1) (ls.set i (stepD (dAt ds i) (row ls i) x).2) (acc ++ [(stepD (dAt ds i) (row ls i) x).1])
def passGo (ps : List (Int × Nat)) (c : Nat) : Nat → Nat → List (List Nat) → Nat → List (List Nat) × Nat
  | 0, _, ls, y => (ls, y)
  | j + 1, i, ls, y => passGo ps c j (i + 1) (ls.set (c + i) (passStep (ptAt ps i).2 (row ls (c + i)) y).2) (passStep (ptAt ps i).2 (row ls (c + i)) y).1
theorem comb_loop (n : Nat) (Ls : List Int) (hL : ∀ z ∈ Ls, 1 ≤ z ∧ z ≤ 64) (ds : List Del) (hd : ds.length ≤ 100) (hdl : ds.length ≤ Ls.length) (n1 : Nat) (l2 : List T) (n5 : Nat) (l6 : List T) (x7 x8 n11 : Nat) (l12 : List T) (x n16 : Nat) (l17 : List T) (i18 i19 : Int) : ∀ (j i m : Nat) (ls : List (List Nat)) (acc : List Nat), i + j = ds.length → Lok Ls ls → acc.length ≤ i → j < m →
    Lok Ls (combGo ds x j i ls acc).1 ∧ (combGo ds x j i ls acc).2.length = acc.length + j ∧
    f156_i_Roomrun.l2 (n + 4) m n1 l2 ds.length (dels ds) n5 l6 x7 x8 Ls.length (ls.map rwF) n11 l12 x acc.length (fls .f32 acc) n16 l17 i18 i19 ds.length (dels ds) (ds.length : Int) (i : Int) = some (n1, l2, ds.length, dels ds, n5, l6, x7, x8, Ls.length, (combGo ds x j i ls acc).1.map rwF, n11, l12, x, (combGo ds x j i ls acc).2.length, fls .f32 (combGo ds x j i ls acc).2, n16, l17, i18, i19) := by
  intro j
  induction j with
  | zero =>
    intro i m ls acc hi hls hacc hm
    obtain ⟨m, rfl⟩ : ∃ k, m = k + 1 := ⟨m - 1, by omega⟩
    refine ⟨hls, rfl, ?_⟩
    rw [f156_i_Roomrun.l2, nlt_dec (by omega)]; rfl
  | succ j ih =>
    intro i m ls acc hi hls hacc hm
    obtain ⟨m, rfl⟩ : ∃ k, m = k + 1 := ⟨m - 1, by omega⟩
    have h : i < ds.length := by omega
    have hlen := hls.1
    have hil : i < ls.length := by omega
    obtain ⟨s1, s2⟩ := hls.small hL hil
    obtain ⟨f1, f2⟩ := stepD_facts (d := dAt ds i) (x := x) s1 (hls.2 i hil).2
    obtain ⟨q1, q2, q3⟩ := ih (i + 1) m (ls.set i (stepD (dAt ds i) (row ls i) x).2) (acc ++ [(stepD (dAt ds i) (row ls i) x).1]) (by omega) (hls.set hil f1 f2) (by simp; omega) (by omega)
    refine ⟨q1, by rw [combGo, q2]; simp; omega, ?_⟩
    have e := i_delaystep n (dAt ds i).L (dAt ds i).fb (dAt ds i).dry (dAt ds i).wet (dAt ds i).fl (row ls i) x s1 s2
    rw [show delayStep (dAt ds i).fb (dAt ds i).dry (dAt ds i).wet (dAt ds i).fl (row ls i) x = stepD (dAt ds i) (row ls i) x from rfl] at e
    rw [f156_i_Roomrun.l2, lt_dec h, in_dec h, in_dec (show i < Ls.length by omega), Int.toNat_natCast, okD h, okR hil, nR hil, lR hil, iD h, fD1 h, fD2 h, fD3 h, bD h, bleR hil]
    simp only [br_t, Bool.and_self, gd_t, e, bd_s, set_rw, push_ok (show acc.length < 2147483648 by omega), push_fls, wrap_succ (show i < 9223372036854775807 by omega)]
    rw [push_len (z := (stepD (dAt ds i) (row ls i) x).1)]
    exact q3
theorem pass_loop (n : Nat) (Ls : List Int) (hL : ∀ z ∈ Ls, 1 ≤ z ∧ z ≤ 64) (c : Nat) (l4 : List T) (ps : List (Int × Nat)) (hd : ps.length ≤ 100) (hdl : c + ps.length = Ls.length) (hc : c ≤ 100) (n1 : Nat) (l2 : List T) (x7 x8 n11 : Nat) (l12 : List T) (x n16 : Nat) (l17 : List T) (i18 i19 : Int) : ∀ (j i m : Nat) (ls : List (List Nat)) (y : Nat), i + j = ps.length → Lok Ls ls → j < m →
    Lok Ls (passGo ps c j i ls y).1 ∧
    f156_i_Roomrun.l3 (n + 3) m n1 l2 c l4 ps.length (tps ps) x7 x8 Ls.length (ls.map rwF) n11 l12 x y n16 l17 i18 i19 ps.length (tps ps) (ps.length : Int) (i : Int) = some (n1, l2, c, l4, ps.length, tps ps, x7, x8, Ls.length, (passGo ps c j i ls y).1.map rwF, n11, l12, x, (passGo ps c j i ls y).2, n16, l17, i18, i19) := by
  intro j
  induction j with
  | zero =>
    intro i m ls y hi hls hm
    obtain ⟨m, rfl⟩ : ∃ k, m = k + 1 := ⟨m - 1, by omega⟩
    refine ⟨hls, ?_⟩
    rw [f156_i_Roomrun.l3, nlt_dec (by omega)]; rfl
  | succ j ih =>
    intro i m ls y hi hls hm
    obtain ⟨m, rfl⟩ : ∃ k, m = k + 1 := ⟨m - 1, by omega⟩
    have h : i < ps.length := by omega
    have hlen := hls.1
    have hil : c + i < ls.length := by omega
    obtain ⟨s1, s2⟩ := hls.small hL hil
    obtain ⟨f1, f2⟩ := stepP_facts (ga := (ptAt ps i).2) (x := y) s1 (hls.2 _ hil).2
    obtain ⟨q1, q3⟩ := ih (i + 1) m (ls.set (c + i) (passStep (ptAt ps i).2 (row ls (c + i)) y).2) (passStep (ptAt ps i).2 (row ls (c + i)) y).1 (by omega) (hls.set hil f1 f2) (by omega)
    refine ⟨q1, ?_⟩
    have e := i_passstep n (ptAt ps i).1 (ptAt ps i).2 (row ls (c + i)) y s1 s2
    have w : IntKind.i64.wrap ((c : Int) + (i : Int)) = ((c + i : Nat) : Int) := by rw [wrap64] <;> omega
    have g : decide ((0 : Int) ≤ ((c + i : Nat) : Int) ∧ ((c + i : Nat) : Int) < (Ls.length : Int)) = true := in_dec (show c + i < Ls.length by omega)
    rw [f156_i_Roomrun.l3, lt_dec h, in_dec h, w]
    simp only [Int.toNat_natCast, okTP h, okR hil, nR hil, lR hil, iTP h, fTP0 h, bleR hil, g, br_t, Bool.and_self, gd_t, e, bd_s, set_rw, wrap_succ (show i < 9223372036854775807 by omega)]
    exact q3
def combM (R : Rm) (ls : List (List Nat)) (x : Nat) : List (List Nat) × List Nat := combGo R.ds x R.ds.length 0 ls []
def passM (R : Rm) (ls : List (List Nat)) (y : Nat) : List (List Nat) × Nat := passGo R.ps R.ds.length R.ps.length 0 ls y
def roomStep (R : Rm) (ls : List (List Nat)) (x : Nat) : Nat × List (List Nat) :=
  (fadd .f32 (fmul .f32 R.dry x) (fmul .f32 R.wet (passM R (combM R ls x).1 (sumM 0 (combM R ls x).2)).2), (passM R (combM R ls x).1 (sumM 0 (combM R ls x).2)).1)
theorem run_loop (n : Nat) {R : Rm} (hR : RmOk R) (hn : 200 < n) (N : Nat) (cs : List T) : ∀ (zs p acc : List Nat) (ls : List (List Nat)) (m : Nat), Lok (lens R) ls → acc.length + zs.length < 1048576 → p.length + zs.length < 1048576 → zs.length < m →
    Lok (lens R) (scan (roomStep R) ls zs).2 ∧
    f156_i_Roomrun.l1 (n + 4) m N cs R.ds.length (dels R.ds) R.ps.length (tps R.ps) R.dry R.wet (lens R).length (ls.map rwF) acc.length (fls .f32 acc) (p ++ zs).length (fls .f32 (p ++ zs)) ((p ++ zs).length : Int) (p.length : Int) =
      some ((lens R).length, (scan (roomStep R) ls zs).2.map rwF, (acc ++ (scan (roomStep R) ls zs).1).length, fls .f32 (acc ++ (scan (roomStep R) ls zs).1)) := by
  obtain ⟨h0, h1, h2, h3⟩ := hR.facts
  have hl := lens_length R
  intro zs
  induction zs with
  | nil =>
    intro p acc ls m hls _ _ hm
    obtain ⟨m, rfl⟩ : ∃ k, m = k + 1 := ⟨m - 1, by simp at hm; omega⟩
    refine ⟨hls, ?_⟩
    rw [f156_i_Roomrun.l1, lt_end]
    simp [br, scan]
  | cons z zs ih =>
    intro p acc ls m hls ha hp hm
    obtain ⟨m, rfl⟩ : ∃ k, m = k + 1 := ⟨m - 1, by simp at hm; omega⟩
    obtain ⟨c1, c2, c3⟩ := comb_loop n (lens R) h0 R.ds (by omega) (by omega) N cs R.ps.length (tps R.ps) R.dry R.wet acc.length (fls .f32 acc) z (p ++ z :: zs).length (fls .f32 (p ++ z :: zs)) ((p ++ z :: zs).length : Int) (p.length : Int) R.ds.length 0 (n + 4) ls [] (by omega) hls (by simp) (by omega)
    have c3 : f156_i_Roomrun.l2 (n + 4) (n + 4) N cs R.ds.length (dels R.ds) R.ps.length (tps R.ps) R.dry R.wet (lens R).length (ls.map rwF) acc.length (fls .f32 acc) z 0 [] (p ++ z :: zs).length (fls .f32 (p ++ z :: zs)) ((p ++ z :: zs).length : Int) (p.length : Int) R.ds.length (dels R.ds) (R.ds.length : Int) 0 = _ := c3
    have c2' : (combGo R.ds z R.ds.length 0 ls []).2.length ≤ 4 := by rw [c2]; simp; omega
    obtain ⟨d1, d2⟩ := pass_loop (n + 1) (lens R) h0 R.ds.length (dels R.ds) R.ps (by omega) (by omega) (by omega) N cs R.dry R.wet acc.length (fls .f32 acc) z (p ++ z :: zs).length (fls .f32 (p ++ z :: zs)) ((p ++ z :: zs).length : Int) (p.length : Int) R.ps.length 0 (n + 4) (combM R ls z).1 (sumM 0 (combM R ls z).2) (by omega) c1 (by omega)
    have d2 : f156_i_Roomrun.l3 (n + 4) (n + 4) N cs R.ds.length (dels R.ds) R.ps.length (tps R.ps) R.dry R.wet (lens R).length ((combGo R.ds z R.ds.length 0 ls []).1.map rwF) acc.length (fls .f32 acc) z (sumM 0 (combGo R.ds z R.ds.length 0 ls []).2) (p ++ z :: zs).length (fls .f32 (p ++ z :: zs)) ((p ++ z :: zs).length : Int) (p.length : Int) R.ps.length (tps R.ps) (R.ps.length : Int) 0 = _ := d2
    obtain ⟨q1, q2⟩ := ih (p ++ [z]) (acc ++ [(roomStep R ls z).1]) (roomStep R ls z).2 m d1 (by simp at ha ⊢; omega) (by simp at hp ⊢; omega) (by simp at hm; omega)
    refine ⟨q1, ?_⟩
    rw [f156_i_Roomrun.l1, lt_mid, in_mid, toNat_len, okAt_mid, fAt_mid]
    have w := wrap_len (z := z) (p := p) (show p.length < 4611686018427387904 by simp at hp; omega)
    simp only [br_t, Bool.and_self, gd_t, c3, bd_s, w, i_summed (n + 3) _ (show (combGo R.ds z R.ds.length 0 ls []).2.length < 1048576 by omega) (show (combGo R.ds z R.ds.length 0 ls []).2.length < n + 3 by omega), d2, push_ok (show acc.length < 2147483648 by simp at ha; omega), push_fls]
    rw [push_len (z := (roomStep R ls z).1)]
    rw [List.append_assoc, List.append_assoc] at q2
    exact q2
theorem i_run (n : Nat) {R : Rm} (hR : RmOk R) (hn : 400 < n) {ls : List (List Nat)} (h : Lok (lens R) ls) (xs : List Nat) (hx : xs.length ≤ 256) :
    Lok (lens R) (scan (roomStep R) ls xs).2 ∧ f156_i_Roomrun (n + 5) R.ds.length (dels R.ds) R.ps.length (tps R.ps) R.dry R.wet ls.length (ls.map rwF) xs.length (fls .f32 xs) = some ((scan (roomStep R) ls xs).1.length, fls .f32 (scan (roomStep R) ls xs).1, (lens R).length, (scan (roomStep R) ls xs).2.map rwF) := by
  obtain ⟨h0, h1, h2, h3⟩ := hR.facts
  have hl := lens_length R
  have hlen := h.1
  have e1 := copies_loop (n + 3) ls.length (ls.map rwF) xs.length (fls .f32 xs) R.ds.length (dels R.ds) R.ps.length (tps R.ps) R.dry R.wet ls (by omega) (fun i hi => (h.small h0 hi).2) ls.length 0 (n + 4) [] (by omega) (by simp) (by omega)
  simp only [List.drop_zero, List.nil_append] at e1
  have e1 : f156_i_Roomrun.l0 (n + 4) (n + 4) ls.length (ls.map rwF) xs.length (fls .f32 xs) R.ds.length (dels R.ds) R.ps.length (tps R.ps) R.dry R.wet 0 [] ls.length (ls.map rwF) (ls.length : Int) 0 = _ := e1
  obtain ⟨r1, e2⟩ := run_loop n hR (by omega) xs.length (fls .f32 xs) xs [] [] ls (n + 4) h (by simp; omega) (by simp; omega) (by omega)
  simp only [List.nil_append] at e2
  have e2 : f156_i_Roomrun.l1 (n + 4) (n + 4) xs.length (fls .f32 xs) R.ds.length (dels R.ds) R.ps.length (tps R.ps) R.dry R.wet (lens R).length (ls.map rwF) 0 [] xs.length (fls .f32 xs) (xs.length : Int) 0 = _ := e2
  refine ⟨r1, ?_⟩
  rw [f156_i_Roomrun, e1]
  simp only [bd_s, hlen, e2]
theorem i_runroom (n : Nat) {R : Rm} (hR : RmOk R) (hn : 400 < n) {ls : List (List Nat)} (h : Lok (lens R) ls) (xs : List Nat) (hx : xs.length ≤ 256) :
    f79_i_RunRoom (n + 6) R.ds.length (dels R.ds) R.ps.length (tps R.ps) R.dry R.wet (lens R).length (ls.map rwF) xs.length (fls .f32 xs) = some ((scan (roomStep R) ls xs).1.length, fls .f32 (scan (roomStep R) ls xs).1, (lens R).length, (scan (roomStep R) ls xs).2.map rwF, true) := by
  obtain ⟨-, e⟩ := i_run n hR hn h xs hx
  have e2 := i_lines (n + 2) hR h (by omega)
  rw [h.1] at e e2
  rw [f79_i_RunRoom, i_valid (n + 1) hR (by omega)]
  simp only [bd_s, Bool.not_true, br_f, i_few, decide_eq_true (show (xs.length : Int) ≤ 256 by omega), e2, e]
/-! ### answers -/
theorem set_fls {k : FloatKind} {L : List Nat} {i v : Nat} : setN (fls k L) i [T.flt k v] = fls k (L.set i v) := by
  rw [setN_one]; simp [fls, List.map_set]
def knock (N : Nat) : List Nat := (List.replicate N 0).set 0 1065353216
theorem knock_length (N : Nat) : (knock N).length = N := by simp [knock]
theorem i_knock (n N : Nat) (h : 1 ≤ N ∧ N ≤ 1000) : f122_i_impulse (n + 2) (N : Int) = some (N, fls .f32 (knock N)) := by
  have g2 : Nat.ble 1 (fls .f32 (List.replicate N 0)).length = true := by rw [Nat.ble_eq]; simp [fls]; omega
  rw [f122_i_impulse, i_zeroed n N (by omega)]
  simp only [bd_s, decide_eq_true (show (N : Int) > 0 by omega), br_t, decide_eq_true (show (0 : Int) ≤ 0 ∧ (0 : Int) < (N : Int) by omega), gd_t, g2, set_fls]
  rfl
theorem i_emptyroom (n : Nat) {R : Rm} (hR : RmOk R) (hn : 300 < n) : f78_i_EmptyRoom (n + 5) R.ds.length (dels R.ds) R.ps.length (tps R.ps) R.dry R.wet = some ((lens R).length, (emptyM (lens R)).map rwF, true) := by
  have hE := (empty_ok hR.facts.1).1
  rw [f78_i_EmptyRoom, i_valid n hR (by omega)]
  simp only [bd_s, Bool.not_true, br_f, i_empty (n + 1) hR (by omega), hE]
theorem i_answer (n : Nat) {R : Rm} (hR : RmOk R) (hn : 400 < n) (N : Nat) (hN : 1 ≤ N ∧ N ≤ 256) : f81_i_AnswerOf (n + 6) R.ds.length (dels R.ds) R.ps.length (tps R.ps) R.dry R.wet (N : Int) = some ((scan (roomStep R) (emptyM (lens R)) (knock N)).1.length, fls .f32 (scan (roomStep R) (emptyM (lens R)) (knock N)).1, true) := by
  obtain ⟨-, e⟩ := i_run n hR hn (empty_ok hR.facts.1) (knock N) (by rw [knock_length]; omega)
  rw [knock_length] at e
  rw [f81_i_AnswerOf, i_valid (n + 1) hR (by omega)]
  simp only [bd_s, Bool.not_true, br_f, i_in, decide_eq_true (show (1 : Int) ≤ (N : Int) ∧ (N : Int) ≤ 256 by omega), i_empty (n + 2) hR (by omega), i_knock (n + 3) N (by omega), e]
theorem room_w32 (R : Rm) : ∀ (xs : List Nat) (ls : List (List Nat)), ∀ y ∈ (scan (roomStep R) ls xs).1, W32 y
  | [], _, y, h => by simp [scan] at h
  | x :: xs, ls, y, h => by
    simp only [scan, List.mem_cons] at h
    rcases h with rfl | h
    · exact w32_fadd _ _
    · exact room_w32 R xs _ y h
theorem rows_loop (n : Nat) (n1 : Nat) (l2 : List T) (n3 : Nat) (l4 : List T) (x5 x6 : Nat) (i7 : Int) (n8 : Nat) (l9 : List T) (n10 : Nat) (l11 : List T) (Ls : List Int) (hL : ∀ z ∈ Ls, 1 ≤ z ∧ z ≤ 64) (ls : List (List Nat)) (h : Lok Ls ls) (hl : ls.length ≤ 1000) (hn : 200 < n) : ∀ (j i m : Nat), i + j = ls.length → j < m →
    f13_l_FnRooms.l0 (n + 5) m n1 l2 n3 l4 x5 x6 i7 n8 l9 n10 l11 ls.length (ls.map rwF) ls.length (ls.map rwF) (ls.length : Int) (i : Int) = some (Sum.inr (n1, l2, n3, l4, x5, x6, i7, n8, l9, n10, l11)) := by
  intro j
  induction j with
  | zero =>
    intro i m hi hm
    obtain ⟨m, rfl⟩ : ∃ k, m = k + 1 := ⟨m - 1, by omega⟩
    rw [f13_l_FnRooms.l0, nlt_dec (by omega)]; rfl
  | succ j ih =>
    intro i m hi hm
    obtain ⟨m, rfl⟩ : ∃ k, m = k + 1 := ⟨m - 1, by omega⟩
    have hi' : i < ls.length := by omega
    obtain ⟨s1, s2⟩ := h.small hL hi'
    have e := l_same10 n (row ls i) (row ls i) (h.2 i hi').2 (h.2 i hi').2 (by omega) (by omega)
    rw [decide_eq_true rfl] at e
    rw [f13_l_FnRooms.l0, lt_dec hi', in_dec hi', Int.toNat_natCast, okR hi', nR hi', lR hi', e]
    simp only [br_t, Bool.and_self, gd_t, bd_s, Bool.not_true, br_f, wrap_succ (show i < 9223372036854775807 by omega)]
    exact ih (i + 1) m (by omega) (by omega)
/-! ### a room of one delay -/
theorem fmul_num {k : FloatKind} {x y : Nat} {s t : Bool} {m n : Nat} {i j : Int} (h1 : k.decode x = .number s m i) (h2 : k.decode y = .number t n j) : fmul k x y = k.encode (.number (s ^^ t) (m * n) (i + j)) := by
  have e1 : k.format.read x = .number s m i := h1
  have e2 : k.format.read y = .number t n j := h2
  simp only [fmul, Ieee.Format.mul, e1, e2, Ieee.Datum.product, Option.map_some]
  rfl
theorem fmul_comm {k : FloatKind} {x y : Nat} {a b : Rat} (hx : Val k x a) (hy : Val k y b) : fmul k x y = fmul k y x := by
  obtain ⟨s, m, i, e1, -⟩ := hx
  obtain ⟨t, n, j, e2, -⟩ := hy
  rw [fmul_num e1 e2, fmul_num e2 e1, Bool.xor_comm, Nat.mul_comm, Int.add_comm]
theorem rep0_zero : Rep0 .f32 (0 : Rat) := by
  have := rep_nat .f32 (Nat.zero_le _)
  rwa [show ((0 : Nat) : Rat) = 0 from rfl] at this
theorem zero_mul {x : Nat} {v : Rat} (hx : Val .f32 x v) : Val .f32 (fmul .f32 0 x) 0 := by
  have e : 0 * v = 0 := Rat.zero_mul v
  obtain ⟨R, r1, r2⟩ := mul_val (val_zero .f32) hx rep0_zero (p2_pos _) (by rw [e]; exact Rat.le_refl) (by rw [e]; decide)
  rw [e] at r2
  exact r1.near_eq r2 (repZ _)
theorem val_bound {x : Nat} {v : Rat} (hv : Val .f32 x v) : ∃ B, Rep0 .f32 B ∧ B < p2 (topE .f32) ∧ v ≤ B ∧ -B ≤ v := by
  obtain ⟨s, m, i, h1, h2, h3, h4⟩ := hv
  have hb : mv m i < p2 (topE .f32) := by
    obtain ⟨a1, a2, a3⟩ := single_finite h1
    have q := (mv_lt (m := m) (n := 2 ^ 24) (e := i)).2 (by omega)
    rw [mv_pow] at q
    have q2 := p2_le (show i + ((24 : Nat) : Int) ≤ 128 by omega)
    show mv m i < p2 128
    grind
  have habs : v ≤ mv m i ∧ -(mv m i) ≤ v := by
    have := mv_nonneg m i
    cases s <;> simp only [sg_true, sg_false] at h2 <;> grind
  exact ⟨mv m i, ⟨m, i, h3, h4, rfl⟩, hb, habs.1, habs.2⟩
theorem add_zero_val {t z : Nat} {v : Rat} (ht : Val .f32 t 0) (hz : Val .f32 z v) : Val .f32 (fadd .f32 t z) v := by
  obtain ⟨B, b1, b2, b3, b4⟩ := val_bound hz
  obtain ⟨R, r1, r2⟩ := add_val ht hz b1 b2 (by rw [Rat.zero_add]; exact b3) (by rw [Rat.zero_add]; exact b4)
  rw [Rat.zero_add] at r2
  exact r1.near_eq r2 hz.rep
theorem one_mul_val {z : Nat} {v : Rat} (hz : Val .f32 z v) : Val .f32 (fmul .f32 1065353216 z) v := by
  obtain ⟨B, b1, b2, b3, b4⟩ := val_bound hz
  obtain ⟨R, r1, r2⟩ := mul_val val_one32 hz b1 b2 (by rw [Rat.one_mul]; exact b3) (by rw [Rat.one_mul]; exact b4)
  rw [Rat.one_mul] at r2
  exact r1.near_eq r2 hz.rep
def nearM (x z : Nat) : Nat := fadd .f32 (fmul .f32 0 x) (fmul .f32 1065353216 (fadd .f32 0 z))
theorem near_same {x z : Nat} (hx : fin32 x = true) (hz : W32 z) : feq .f32 (nearM x z) z = true ∨ (feq .f32 (nearM x z) z = false ∧ fne .f32 (nearM x z) (nearM x z) = true ∧ fne .f32 z z = true) := by
  have ht := zero_mul (fin_val hx)
  unfold nearM
  cases hf : fin32 z
  · have htw := val_zero_word (fmul_lt _ _ _) ht
    cases hn : isNaN .f32 z
    · have h1 := num_mag hn
      have h2 := hz.1
      unfold fin32 at hf
      simp only [decide_eq_false_iff_not] at hf
      have : z = 2139095040 ∨ z = 4286578688 := by omega
      rcases this with rfl | rfl <;> rcases htw with e | e <;> rw [e] <;> left <;> decide
    · have : z = qnan .f32 := by rw [← hz.2]; exact canon_nan hn
      rw [this]
      rcases htw with e | e <;> rw [e] <;> right <;> decide
  · left
    have hz' := fin_val hf
    exact (feq_val (add_zero_val ht (one_mul_val (add_zero_val (val_zero .f32) hz'))) hz').2 rfl
theorem single_scan (d : Del) : ∀ (xs w : List Nat), scan (roomStep ⟨[d], [], 0, 1065353216⟩) [w] xs = (List.zipWith nearM xs (scan (stepD d) w xs).1, [(scan (stepD d) w xs).2])
  | [], w => rfl
  | x :: xs, w => by
    have e : roomStep ⟨[d], [], 0, 1065353216⟩ [w] x = (nearM x (stepD d w x).1, [(stepD d w x).2]) := rfl
    simp only [scan, e, single_scan d xs, List.zipWith_cons_cons]
theorem first_del {ds : List Del} (h : 1 ≤ ds.length) : (dels ds).take 5 = dels [dAt ds 0] ∧ okAt [.int .i64] (dels ds) 0 = true ∧ iAt (dels ds) 0 = (dAt ds 0).L ∧ okAt [.int .i64, .flt .f32, .flt .f32, .flt .f32, .bool] (dels ds) 0 = true ∧ fAt (dels ds) 1 = (dAt ds 0).fb ∧ fAt (dels ds) 2 = (dAt ds 0).dry ∧ fAt (dels ds) 3 = (dAt ds 0).wet ∧ bAt (dels ds) 4 = (dAt ds 0).fl := by
  cases ds with
  | nil => simp at h
  | cons d ds => exact ⟨by simp [dels, delC, dAt], rfl, rfl, rfl, rfl, rfl, rfl, rfl⟩
theorem near_loop (n : Nat) (xs zs : List Nat) (hz : zs.length = xs.length) (hw : ∀ z ∈ zs, W32 z) (hl : xs.length ≤ 1000) : ∀ (j i m : Nat), i + j = xs.length → j < m →
    f13_l_FnRooms.l1 (n + 2) m xs.length (fls .f32 xs) xs.length (fls .f32 (List.zipWith nearM xs zs)) zs.length (fls .f32 zs) (xs.length : Int) (i : Int) = some (Sum.inr ()) := by
  intro j
  induction j with
  | zero =>
    intro i m hi hm
    obtain ⟨m, rfl⟩ : ∃ k, m = k + 1 := ⟨m - 1, by omega⟩
    rw [f13_l_FnRooms.l1, nlt_dec (by omega)]; rfl
  | succ j ih =>
    intro i m hi hm
    obtain ⟨m, rfl⟩ : ∃ k, m = k + 1 := ⟨m - 1, by omega⟩
    have h : i < xs.length := by omega
    have hzi : i < zs.length := by omega
    have hl2 : i < (List.zipWith nearM xs zs).length := by rw [List.length_zipWith]; omega
    have hg : (List.zipWith nearM xs zs).getD i 0 = nearM (xs.getD i 0) (zs.getD i 0) := by
      simp only [List.getD, List.getElem?_zipWith, List.getElem?_eq_getElem h, List.getElem?_eq_getElem hzi, Option.getD_some]
    have hm' : W32 (zs.getD i 0) := by
      have : zs.getD i 0 = zs[i] := by simp [List.getD, hzi]
      rw [this]; exact hw _ (List.getElem_mem hzi)
    have hf : f82_s_IsFinite (n + 2) (xs.getD i 0) = some (fin32 (xs.getD i 0)) := by rw [f82_s_IsFinite, f140_s_l01Finite, sub_finite]; rfl
    have step := ih (i + 1) m (by omega) (by omega)
    rw [f13_l_FnRooms.l1, lt_dec h, in_dec h, in_dec hzi, Int.toNat_natCast, okAt_fls h, okAt_fls hzi, okAt_fls hl2, fAt_fls, fAt_fls, fAt_fls, hg, hf, wrap_succ (show i < 9223372036854775807 by omega)]
    simp only [br_t, gd_t, bd_s]
    cases hx : fin32 (xs.getD i 0)
    · exact step
    · rcases near_same hx hm' with e | ⟨e1, e2, e3⟩
      · rw [e]; exact step
      · rw [e1, e2, e3]; exact step
theorem main_ (n : Nat) (hn : 500 ≤ n) (cs : List Int) (hc : ∀ b ∈ cs, GoodI .u8 b) (ms : List Int) (hm : ∀ b ∈ ms, GoodI .u8 b) : f13_l_FnRooms (n + 500) cs.length (its .u8 cs) ms.length (its .u8 ms) = some true := by
  rw [f13_l_FnRooms, l_long10]
  cases hlong : decide (1048576 < cs.length ∨ 1048576 < ms.length)
  case true => rfl
  obtain ⟨R, hR, e1⟩ := s_b10room (n + 491) (bytes_of hc) (by omega)
  have e1 : f77_s_B10Room (n + 499) cs.length (its .u8 cs) = _ := e1
  obtain ⟨c, hc1, e2⟩ := l_at10 (n + 498) (bytes_of hm) (i := 0) (k := 20) (by omega) (by omega) (by omega)
  obtain ⟨c, rfl⟩ := Int.eq_ofNat_of_zero_le hc1.1
  obtain ⟨xs, hxl, hxw, e3⟩ := s_b10numbers (n + 492) (bytes_of hm) (1 + c) (by omega) (by omega)
  have e3 : f30_s_B10Numbers (n + 499) ms.length (its .u8 ms) (xs.length : Int) = some (xs.length, fls .f32 xs) := by rw [hxl] at e3 ⊢; exact e3
  have w1 : IntKind.i64.wrap (1 + (c : Int)) = (xs.length : Int) := by rw [wrap64] <;> omega
  have w2 : IntKind.i64.wrap ((xs.length : Int) + 1) = (xs.length : Int) + 1 := by rw [wrap64] <;> omega
  obtain ⟨a, ha1, e5⟩ := l_at10 (n + 498) (bytes_of hm) (i := 1) (k := (xs.length : Int) + 1) (by omega) (by omega) (by omega)
  obtain ⟨a, rfl⟩ := Int.eq_ofNat_of_zero_le ha1.1
  have ha : a ≤ xs.length := by omega
  have hl2 : (xs.take a).length = a := by rw [List.length_take]; omega
  have hl3 : (xs.drop a).length = xs.length - a := List.length_drop
  obtain ⟨h0, h1, h2, h3⟩ := hR.facts
  have hE := empty_ok h0
  have eE := i_emptyroom (n + 494) hR (by omega)
  have eE : f78_i_EmptyRoom (n + 499) R.ds.length (dels R.ds) R.ps.length (tps R.ps) R.dry R.wet = _ := eE
  have g1 := i_runroom (n + 493) hR (by omega) hE xs (by omega)
  have g2 := i_runroom (n + 493) hR (by omega) hE (xs.take a) (by omega)
  have hmid := (i_run (n + 493) hR (by omega) hE (xs.take a) (by omega)).1
  have hend := (i_run (n + 493) hR (by omega) hE xs (by omega)).1
  have g3 := i_runroom (n + 493) hR (by omega) hmid (xs.drop a) (by omega)
  have hs1 := scan_append (roomStep R) (emptyM (lens R)) (xs.take a) (xs.drop a)
  rw [List.take_append_drop] at hs1
  have ha1 : (scan (roomStep R) (emptyM (lens R)) (xs.take a)).1 ++ (scan (roomStep R) (scan (roomStep R) (emptyM (lens R)) (xs.take a)).2 (xs.drop a)).1 = (scan (roomStep R) (emptyM (lens R)) xs).1 := by rw [hs1]
  have ha2 : (scan (roomStep R) (scan (roomStep R) (emptyM (lens R)) (xs.take a)).2 (xs.drop a)).2 = (scan (roomStep R) (emptyM (lens R)) xs).2 := by rw [hs1]
  have n1 := scan_length (roomStep R) (emptyM (lens R)) xs
  have n2 := scan_length (roomStep R) (emptyM (lens R)) (xs.take a)
  have n3 := scan_length (roomStep R) (scan (roomStep R) (emptyM (lens R)) (xs.take a)).2 (xs.drop a)
  rw [hl2] at n2
  rw [hl3] at n3
  have s1 := l_same10 (n + 494) _ _ (room_w32 R xs (emptyM (lens R))) (room_w32 R xs (emptyM (lens R))) (by omega) (by omega)
  rw [n1, decide_eq_true rfl] at s1
  have s1 : f44_l_b10Same (n + 499) xs.length (fls .f32 (scan (roomStep R) (emptyM (lens R)) xs).1) xs.length (fls .f32 (scan (roomStep R) (emptyM (lens R)) xs).1) = some true := s1
  rw [n1] at g1
  rw [n2, hl2] at g2
  rw [ha2, n3, hl3] at g3
  have g1 : f79_i_RunRoom (n + 499) R.ds.length (dels R.ds) R.ps.length (tps R.ps) R.dry R.wet (lens R).length ((emptyM (lens R)).map rwF) xs.length (fls .f32 xs) = _ := g1
  have g2 : f79_i_RunRoom (n + 499) R.ds.length (dels R.ds) R.ps.length (tps R.ps) R.dry R.wet (lens R).length ((emptyM (lens R)).map rwF) a (fls .f32 (xs.take a)) = _ := g2
  have g3 : f79_i_RunRoom (n + 499) R.ds.length (dels R.ds) R.ps.length (tps R.ps) R.dry R.wet (lens R).length ((scan (roomStep R) (emptyM (lens R)) (xs.take a)).2.map rwF) (xs.length - a) (fls .f32 (xs.drop a)) = _ := g3
  have j1 : decide ((0 : Int) ≤ 0 ∧ (0 : Int) ≤ (a : Int) ∧ (a : Int) ≤ (xs.length : Int)) = true := decide_eq_true (by omega)
  have j2 : decide ((0 : Int) ≤ (a : Int) ∧ (a : Int) ≤ (xs.length : Int) ∧ (xs.length : Int) ≤ (xs.length : Int)) = true := decide_eq_true (by omega)
  have j3 : (fls .f32 xs).take a = fls .f32 (xs.take a) := fls_take _ _ _
  have j4 : ((fls .f32 xs).drop a).take (xs.length - a) = fls .f32 (xs.drop a) := by rw [fls_drop, fls_take, List.take_of_length_le (by omega)]
  have j5 : ∀ p q : List Nat, reps 0 [T.flt FloatKind.f32 0] ++ fls .f32 p ++ fls .f32 q = fls .f32 (p ++ q) := by intro p q; rw [← fls_append]; rfl
  have j6 : ∀ p q : List Nat, fls .f32 (List.replicate 0 0) ++ fls .f32 p ++ fls .f32 q = fls .f32 (p ++ q) := by intro p q; rw [← fls_append]; rfl
  have eV := i_valid (n + 495) hR (by omega)
  have eV : f80_i_ValidRoom (n + 499) R.ds.length (dels R.ds) R.ps.length (tps R.ps) R.dry R.wet = _ := eV
  have hsum : 0 + a + (xs.length - a) = xs.length := by omega
  have b1 : Nat.ble (0 + a) 2147483648 = true := le_ble (by omega)
  have b2 : Nat.ble xs.length 2147483648 = true := le_ble (by omega)
  have hK : (((lens R).length : Int) != ((lens R).length : Int)) = false := by simp
  have hlr := lens_length R
  have hel := hend.1
  have r0 := rows_loop (n + 494) R.ds.length (dels R.ds) R.ps.length (tps R.ps) R.dry R.wet (xs.length : Int) xs.length (fls .f32 xs) (lens R).length ((emptyM (lens R)).map rwF) (lens R) h0 _ hend (by omega) (by omega) (lens R).length 0 (n + 499) (by omega) (by omega)
  rw [hel] at r0
  have r0 : f13_l_FnRooms.l0 (n + 499) (n + 499) R.ds.length (dels R.ds) R.ps.length (tps R.ps) R.dry R.wet (xs.length : Int) xs.length (fls .f32 xs) (lens R).length ((emptyM (lens R)).map rwF) (lens R).length ((scan (roomStep R) (emptyM (lens R)) xs).2.map rwF) (lens R).length ((scan (roomStep R) (emptyM (lens R)) xs).2.map rwF) ((lens R).length : Int) 0 = _ := r0
  -- the answer
  have k1 : decide ((0 : Int) ≤ (xs.length : Int) ∧ (xs.length : Int) ≤ (2147483648 : Int)) = true := decide_eq_true (by omega)
  have k2 : decide ((0 : Int) ≤ 0 ∧ (0 : Int) < (xs.length : Int)) = true := decide_eq_true (by omega)
  have k3 : Nat.ble 1 (fls .f32 (List.replicate xs.length 0)).length = true := by rw [Nat.ble_eq]; simp [fls]; omega
  have k4 : fls .f32 ((List.replicate xs.length 0).set 0 1065353216) = fls .f32 (knock xs.length) := rfl
  have k5 := i_answer (n + 493) hR (by omega) xs.length (by omega)
  have n4 := scan_length (roomStep R) (emptyM (lens R)) (knock xs.length)
  rw [knock_length] at n4
  rw [n4] at k5
  have k5 : f81_i_AnswerOf (n + 499) R.ds.length (dels R.ds) R.ps.length (tps R.ps) R.dry R.wet (xs.length : Int) = _ := k5
  have g4 := i_runroom (n + 493) hR (by omega) hE (knock xs.length) (by rw [knock_length]; omega)
  rw [n4, knock_length] at g4
  have g4 : f79_i_RunRoom (n + 499) R.ds.length (dels R.ds) R.ps.length (tps R.ps) R.dry R.wet (lens R).length ((emptyM (lens R)).map rwF) xs.length (fls .f32 (knock xs.length)) = _ := g4
  have s4 := l_same10 (n + 494) _ _ (room_w32 R (knock xs.length) (emptyM (lens R))) (room_w32 R (knock xs.length) (emptyM (lens R))) (by omega) (by omega)
  rw [n4, decide_eq_true rfl] at s4
  have s4 : f44_l_b10Same (n + 499) xs.length (fls .f32 (scan (roomStep R) (emptyM (lens R)) (knock xs.length)).1) xs.length (fls .f32 (scan (roomStep R) (emptyM (lens R)) (knock xs.length)).1) = some true := s4
  -- one delay
  obtain ⟨d1, d2, d3, d4, d5, d6, d7, d8⟩ := first_del h1
  have hdL : 1 ≤ (dAt R.ds 0).L ∧ (dAt R.ds 0).L ≤ 64 := h0 _ (by unfold lens; exact List.mem_append_left _ (List.mem_map_of_mem (dAt_mem (show 0 < R.ds.length by omega))))
  generalize dAt R.ds 0 = d at d1 d3 d5 d6 d7 d8 hdL
  obtain ⟨k, hk⟩ := Int.eq_ofNat_of_zero_le (show 0 ≤ d.L by omega)
  rw [hk] at d3 hdL
  have m1 := i_emptyline (n + 496) k (by omega)
  have m1 : f66_i_EmptyLine (n + 499) (k : Int) = _ := m1
  have hR1 : RmOk ⟨[d], [], 0, 1065353216⟩ := by
    show isM [d] [] = true
    unfold isM okL
    simp [hk]; omega
  have hrow : setN (reps 1 [(T.lst 0 [])]) 0 [T.lst k (fls .f32 (List.replicate k 0))] = [List.replicate k 0].map rwF := by
    have := push_rw [] (List.replicate k 0)
    rw [List.length_replicate] at this
    exact this
  have hE1 : emptyM (lens ⟨[d], [], 0, 1065353216⟩) = [List.replicate k 0] := by
    show [List.replicate d.L.toNat 0] = _
    rw [hk]; rfl
  have hok1 := empty_ok hR1.facts.1
  rw [hE1] at hok1
  have g5 := i_runroom (n + 493) hR1 (by omega) hok1 xs (by omega)
  rw [single_scan] at g5
  have n5 : (scan (stepD d) (List.replicate k 0) xs).1.length = xs.length := scan_length _ _ _
  have n6 : (List.zipWith nearM xs (scan (stepD d) (List.replicate k 0) xs).1).length = xs.length := by rw [List.length_zipWith]; omega
  simp only [n6] at g5
  have g5 : f79_i_RunRoom (n + 499) 1 (dels [d]) 0 [] 0 1065353216 1 ([List.replicate k 0].map rwF) xs.length (fls .f32 xs) = _ := g5
  have g6 := i_rundelay (n + 494) d.fb d.dry d.wet d.fl (List.replicate k 0) xs (by simp; omega) (by simp; omega) (by omega) (by omega)
  rw [List.length_replicate, show scan (delayStep d.fb d.dry d.wet d.fl) (List.replicate k 0) xs = scan (stepD d) (List.replicate k 0) xs from rfl, n5] at g6
  have g6 : f63_i_RunDelay (n + 499) (k : Int) d.fb d.dry d.wet d.fl k (fls .f32 (List.replicate k 0)) xs.length (fls .f32 xs) = _ := g6
  have hz0 : AllW (List.replicate k 0) := fun y hy => by
    obtain ⟨-, rfl⟩ := List.mem_replicate.1 hy
    exact w32_zero
  have hzw : AllW (scan (stepD d) (List.replicate k 0) xs).1 := (delay_inv d.fb d.dry d.wet d.fl xs (List.replicate k 0) hz0).1
  have g7 := near_loop (n + 497) xs (scan (stepD d) (List.replicate k 0) xs).1 n5 hzw (by omega) xs.length 0 (n + 499) (by omega) (by omega)
  rw [n5] at g7
  have g7 : f13_l_FnRooms.l1 (n + 499) (n + 499) xs.length (fls .f32 xs) xs.length (fls .f32 (List.zipWith nearM xs (scan (stepD d) (List.replicate k 0) xs).1)) xs.length (fls .f32 (scan (stepD d) (List.replicate k 0) xs).1) (xs.length : Int) 0 = _ := g7
  have k6 : decide ((0 : Int) ≤ 0 ∧ (0 : Int) ≤ 1 ∧ (1 : Int) ≤ (R.ds.length : Int)) = true := decide_eq_true (by omega)
  have k7 : decide ((0 : Int) ≤ 0 ∧ (0 : Int) < (R.ds.length : Int)) = true := decide_eq_true (by omega)
  have hN : (((xs.length : Nat) : Int) != ((xs.length : Nat) : Int)) = false := by simp
  simp only [br_f, bd_s, e1, e2, w1, e3, w2, e5, eE, g1, j1, gd_t, Int.toNat_natCast, Nat.sub_zero, List.drop_zero, j3, g2, j2, j4, g3, Bool.not_true, eV, b1, hsum, b2, j5, j6, ha1, s1, hK, r0, sm_r, k1, k2, reps_fls, k3, set_fls, k4, k5, g4, s4, k6, d1, k7, d2, d3, m1, hrow, g5, d4, d5, d6, d7, d8, g6, hN, g7]
theorem exact_ (cs : List Int) (hc : ∀ b ∈ cs, GoodI .u8 b) (lc : cs.length ≤ maxLen) (ms : List Int) (hm : ∀ b ∈ ms, GoodI .u8 b) (lm : ms.length ≤ maxLen) : ∃ n, f13_l_FnRooms n cs.length (its .u8 cs) ms.length (its .u8 ms) = some true := by
  exact ⟨1000, main_ 500 (by omega) cs hc ms hm⟩
theorem law13 : ∀ args, LawArgs E Try.f13.params.toList args → ∃ N os, evalFn E N 13 args = some ⟨[⟨false, [.leaf], [.bool true]⟩], os⟩ := by
  intro args h0
  have hp : Try.f13.params.toList = [22, 22] := by kernel_rfl
  rw [hp] at h0
  obtain ⟨ts0, r0, rfl, hw0, h1⟩ := h0.cons_inv (d := ⟨false, 1, 24, [.sl .own [.leaf]], [.lst 0 []], .slc 5⟩) (by kernel_rfl)
  obtain ⟨n0, cs0, rfl, gl0, hs0⟩ := hw0.slc_inv (e := 5) (d := ⟨false, 1, 24, [.sl .own [.leaf]], [.lst 0 []], .slc 5⟩) (by kernel_rfl) rfl
  obtain ⟨a0, rfl, rfl, g0⟩ := hs0.ints (k := .u8) (d := ⟨false, 1, 1, [.leaf], [.int .u8 0], .int .u8⟩) (by kernel_rfl) rfl
  obtain ⟨ts1, r1, rfl, hw1, h2⟩ := h1.cons_inv (d := ⟨false, 1, 24, [.sl .own [.leaf]], [.lst 0 []], .slc 5⟩) (by kernel_rfl)
  obtain ⟨n1, cs1, rfl, gl1, hs1⟩ := hw1.slc_inv (e := 5) (d := ⟨false, 1, 24, [.sl .own [.leaf]], [.lst 0 []], .slc 5⟩) (by kernel_rfl) rfl
  obtain ⟨a1, rfl, rfl, g1⟩ := hs1.ints (k := .u8) (d := ⟨false, 1, 1, [.leaf], [.int .u8 0], .int .u8⟩) (by kernel_rfl) rfl
  obtain rfl := h2.nil_inv
  obtain ⟨N, hN⟩ := exact_ a0 g0 gl0 a1 g1 gl1
  exact ⟨N, _, f13_l_FnRooms.ok N (a0.length, its .u8 a0, a1.length, its .u8 a1) true hN⟩


end Go.Proofs.Ytjkhhalnlodinaa.D
end
section
/- FnRooms holds: for every input the law returns true, and its arguments read as before. -/
namespace Go.Proofs.Ytjkhhalnlodinaa.fnRooms
open Go Go.ChangeShapes Go.WideShapes Go.ChangeAt Go.RowKit Go.Desk
set_option linter.unusedVariables false
theorem own : ownKnob Try.prog.godebug = none := by kernel_rfl
theorem laidOut : laidOutB Try.prog = true := by kernel_rfl
set_option maxRecDepth 100000 in
theorem lifted (os : Os) (started : os.Started) (H : Type) (enc : TypeId × Value → H) :
    ReturnsInHanded {} Try.checked os 13 .any (Rows.fnRoomsSpec.pre6 enc Try.prog Try.f13 Rows.fnRoomsRow.domain false) (Rows.fnRoomsSpec.post enc Try.prog Try.f13 false true false false) := by
  refine returnsInHanded_of_change (C := Try.checked) own started (by kernel_rfl) Try.func13
    (ChangeSpec.witness6 (enc := enc) (C := Try.checked) false ⟨#[], #[.slice none 0 0, .slice none 0 0], []⟩ 8 (by kernel_rfl) (by kernel_rfl) (by kernel_rfl) (by kernel_rfl)) ?_
  intro W base args ds gs before hval hW hcnd _
  exact law_contract (c := D.c13) Try.checked.mixed D.tysOk D.fnOk Try.func13 (by kernel_rfl) (by kernel_rfl) (by kernel_rfl) Try.underlying4 rfl
    (fun ds h => by
      rw [show Try.f13.params.toList.length = 2 by kernel_rfl] at h
      match ds, h with
      | [_, _], _ => rfl)
    laidOut (N := 8) (by kernel_rfl) (by kernel_rfl) D.law13 hval hW
theorem over : Rows.fnRoomsRow.holds Try.pinned (OpenSpec.ofChange Rows.fnRoomsSpec) :=
  OpenClaim.holds_of_wide 13 Try.f13 rfl rfl rfl rfl rfl rfl rfl ⟨rfl, rfl, rfl, rfl, rfl⟩ rfl rfl rfl rfl rfl (by kernel_rfl) Try.func13 (by kernel_rfl)
    (of_decide_eq_true (by kernel_rfl)) (by unfold Func.isWrapper; first | (rw [if_pos (by decide +kernel)]; kernel_rfl) | (rw [if_neg (by decide +kernel)]; exact ⟨rfl, rfl⟩))
    (fun os started H enc _ => lifted os started H enc)
theorem proved : Rows.FnRoomsSaid := over
#print axioms proved
end Go.Proofs.Ytjkhhalnlodinaa.fnRooms
namespace Go.Proofs.Ytjkhhalnlodinaa
/-- The row, under a short name, for the claim. -/
theorem fnRooms_holds : Rows.FnRoomsSaid := fnRooms.proved
end Go.Proofs.Ytjkhhalnlodinaa
end
