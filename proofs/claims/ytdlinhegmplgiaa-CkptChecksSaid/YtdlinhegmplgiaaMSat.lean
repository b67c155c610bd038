import Derived.Test.YtdlinhegmplgiaaXW
set_option linter.unusedVariables false
set_option linter.unusedSimpArgs false
namespace Go.Proofs.Ytdlinhegmplgiaa.Mth
open Go Go.RowKit Go.Proofs.YtdlinhegmplgiaaW.PrintWords Go.Proofs.YtdlinhegmplgiaaW.PrintLast
/-- clamp to 32 bits -/
def clampI (x : Int) : Int := if x > 2147483647 then 2147483647 else if x < -2147483648 then -2147483648 else x
/-- sum clamped to 64 bits -/
def saddI (a b : Int) : Int := if a + b > 9223372036854775807 then 9223372036854775807 else if a + b < -9223372036854775808 then -9223372036854775808 else a + b
/-- x divided by 2^n, half away from nought -/
def rdivI (x : Int) (n : Nat) : Int := match n with
  | 0 => x
  | m + 1 => if 0 ≤ x then (x + 2 ^ m) / 2 ^ (m + 1) else -((-x + 2 ^ m) / 2 ^ (m + 1))
def nclampI (n : Int) : Nat := if n > 62 then 62 else n.toNat
def shiftI (x n : Int) : Int := rdivI x (nclampI n)
def mulI (a b : Int) : Int := clampI (rdivI (clampI a * clampI b) 16)
def divI (a b : Int) : Int :=
  if clampI b = 0 then (if clampI a > 0 then 2147483647 else if clampI a < 0 then -2147483648 else 0)
  else clampI (Int.tdiv (clampI a * 65536) (clampI b))

theorem pow2_pos (m : Nat) : (0 : Int) < 2 ^ m := Int.pow_pos (by decide)
theorem pow2_succ (m : Nat) : (2 : Int) ^ (m + 1) = 2 * 2 ^ m := by rw [Int.pow_succ, Int.mul_comm]
theorem clampI_range (x : Int) : -2147483648 ≤ clampI x ∧ clampI x ≤ 2147483647 := by unfold clampI; split <;> (try split) <;> omega
theorem clampI_id {x : Int} (h0 : -2147483648 ≤ x) (h1 : x ≤ 2147483647) : clampI x = x := by unfold clampI; split <;> (try split) <;> omega
theorem clampI_idem (x : Int) : clampI (clampI x) = clampI x := clampI_id (clampI_range x).1 (clampI_range x).2
theorem clampI_mono {x y : Int} (h : x ≤ y) : clampI x ≤ clampI y := by unfold clampI; split <;> split <;> (try split) <;> (try split) <;> omega
theorem saddI_range (a b : Int) : -9223372036854775808 ≤ saddI a b ∧ saddI a b ≤ 9223372036854775807 := by unfold saddI; split <;> (try split) <;> omega
theorem saddI_id {a b : Int} (h0 : -9223372036854775808 ≤ a + b) (h1 : a + b ≤ 9223372036854775807) : saddI a b = a + b := by unfold saddI; split <;> (try split) <;> omega
theorem saddI_comm (a b : Int) : saddI a b = saddI b a := by unfold saddI; rw [Int.add_comm]

/-- rdivI x n = q exactly if x is within half of q * 2^n -/
theorem rdivI_mono {x y : Int} (n : Nat) (h : x ≤ y) : rdivI x n ≤ rdivI y n := by
  cases n with
  | zero => exact h
  | succ m =>
    have hp := pow2_pos m
    have hP := pow2_pos (m + 1)
    unfold rdivI
    by_cases hx : 0 ≤ x
    · have hy : 0 ≤ y := by omega
      simp only [if_pos hx, if_pos hy]
      exact Int.ediv_le_ediv hP (by omega)
    · by_cases hy : 0 ≤ y
      · simp only [if_neg hx, if_pos hy]
        have h1 : 0 ≤ (-x + 2 ^ m) / 2 ^ (m + 1) := Int.ediv_nonneg (by omega) (by omega)
        have h2 : 0 ≤ (y + 2 ^ m) / 2 ^ (m + 1) := Int.ediv_nonneg (by omega) (by omega)
        omega
      · simp only [if_neg hx, if_neg hy]
        have : (-y + 2 ^ m) / 2 ^ (m + 1) ≤ (-x + 2 ^ m) / 2 ^ (m + 1) := Int.ediv_le_ediv hP (by omega)
        omega
theorem rdivI_neg (x : Int) (n : Nat) : rdivI (-x) n = -rdivI x n := by
  cases n with
  | zero => rfl
  | succ m =>
    unfold rdivI
    have hp := pow2_pos m
    have hP := pow2_succ m
    by_cases hx : 0 ≤ x
    · by_cases h0 : x = 0
      · subst h0
        have : (2 : Int) ^ m / 2 ^ (m + 1) = 0 := Int.ediv_eq_zero_of_lt (by omega) (by omega)
        simp [this]
      · simp only [if_pos hx]; rw [if_neg (by omega)]; simp
    · simp only [if_neg hx]; rw [if_pos (by omega)]; simp
theorem rdivI_zero (n : Nat) : rdivI 0 n = 0 := by have := rdivI_neg 0 n; simp at this; omega
/-- off by a half at most -/
theorem rdivI_near (x : Int) (m : Nat) : -(2 ^ m) ≤ x - rdivI x (m + 1) * 2 ^ (m + 1) ∧ x - rdivI x (m + 1) * 2 ^ (m + 1) ≤ 2 ^ m := by
  unfold rdivI
  have hp := pow2_pos m
  have hP := pow2_succ m
  by_cases hx : 0 ≤ x
  · simp only [if_pos hx]
    have h1 := Int.emod_nonneg (x + 2 ^ m) (show (2 : Int) ^ (m + 1) ≠ 0 by omega)
    have h2 := Int.emod_lt_of_pos (x + 2 ^ m) (pow2_pos (m + 1))
    have h3 := Int.mul_ediv_add_emod (x + 2 ^ m) (2 ^ (m + 1))
    rw [Int.mul_comm] at h3
    generalize (x + 2 ^ m) / 2 ^ (m + 1) * 2 ^ (m + 1) = t at *
    omega
  · simp only [if_neg hx]
    have h1 := Int.emod_nonneg (-x + 2 ^ m) (show (2 : Int) ^ (m + 1) ≠ 0 by omega)
    have h2 := Int.emod_lt_of_pos (-x + 2 ^ m) (pow2_pos (m + 1))
    have h3 := Int.mul_ediv_add_emod (-x + 2 ^ m) (2 ^ (m + 1))
    rw [Int.mul_comm] at h3
    rw [Int.neg_mul]
    generalize (-x + 2 ^ m) / 2 ^ (m + 1) * 2 ^ (m + 1) = t at *
    omega
theorem mulI_comm (a b : Int) : mulI a b = mulI b a := by unfold mulI; rw [Int.mul_comm]
theorem rdivI_mul (x : Int) (n : Nat) : rdivI (x * 2 ^ n) n = x := by
  cases n with
  | zero => simp [rdivI]
  | succ m =>
    have h := rdivI_near (x * 2 ^ (m + 1)) m
    have hp := pow2_pos m
    have hP := pow2_succ m
    have e : x * 2 ^ (m + 1) - rdivI (x * 2 ^ (m + 1)) (m + 1) * 2 ^ (m + 1) = (x - rdivI (x * 2 ^ (m + 1)) (m + 1)) * 2 ^ (m + 1) := by rw [Int.sub_mul]
    rw [e] at h
    have e2 : x = rdivI (x * 2 ^ (m + 1)) (m + 1) + (x - rdivI (x * 2 ^ (m + 1)) (m + 1)) := by omega
    generalize x - rdivI (x * 2 ^ (m + 1)) (m + 1) = d at *
    have h0 : d = 0 := by
      rcases Int.lt_trichotomy d 0 with hd | hd | hd
      · have := Int.mul_le_mul_of_nonneg_right (show d ≤ -1 by omega) (Int.le_of_lt (pow2_pos (m + 1)))
        omega
      · exact hd
      · have := Int.mul_le_mul_of_nonneg_right (show 1 ≤ d by omega) (Int.le_of_lt (pow2_pos (m + 1)))
        omega
    omega
theorem mulI_one (a : Int) : mulI a 65536 = clampI a := by
  unfold mulI
  have : clampI 65536 = 65536 := by decide
  rw [this]
  have := rdivI_mul (clampI a) 16
  simp only [show (2 : Int) ^ 16 = 65536 from rfl] at this
  rw [this, clampI_idem]
theorem mulI_range (a b : Int) : -2147483648 ≤ mulI a b ∧ mulI a b ≤ 2147483647 := clampI_range _
theorem clampI_neg {x : Int} (h : -2147483647 ≤ x) (h1 : x ≤ 2147483647) : clampI (-x) = - clampI x := by rw [clampI_id (by omega) (by omega), clampI_id (by omega) (by omega)]
theorem rdivI_range {x : Int} (n : Nat) {B : Int} (h : -B ≤ x) (h1 : x ≤ B) : -B ≤ rdivI x n ∧ rdivI x n ≤ B := by
  cases n with
  | zero => exact ⟨h, h1⟩
  | succ m =>
    have hp := pow2_pos m
    have hP := pow2_succ m
    have key : ∀ y : Int, 0 ≤ y → 0 ≤ (y + 2 ^ m) / 2 ^ (m + 1) ∧ (y + 2 ^ m) / 2 ^ (m + 1) ≤ y := by
      intro y hy
      refine ⟨Int.ediv_nonneg (by omega) (by omega), ?_⟩
      have : (y + 2 ^ m) / 2 ^ (m + 1) < y + 1 := by
        refine Int.ediv_lt_of_lt_mul (by omega) ?_
        have : (y + 1) * 2 ^ (m + 1) = y * 2 ^ (m + 1) + 2 ^ (m + 1) := by rw [Int.add_mul]; simp
        have h3 : y * 1 ≤ y * 2 ^ (m + 1) := Int.mul_le_mul_of_nonneg_left (by omega) hy
        omega
      omega
    unfold rdivI
    by_cases hx : 0 ≤ x
    · simp only [if_pos hx]; have := key x hx; omega
    · simp only [if_neg hx]; have := key (-x) (by omega); omega
theorem prod_range {x y A B : Int} (hx0 : -A ≤ x) (hx1 : x ≤ A) (hy0 : -B ≤ y) (hy1 : y ≤ B) : -(A * B) ≤ x * y ∧ x * y ≤ A * B := by
  have hA : 0 ≤ A := by omega
  have hB : 0 ≤ B := by omega
  have h1 : x * y ≤ (x.natAbs * y.natAbs : Nat) := by rw [← Int.natAbs_mul]; exact Int.le_natAbs
  have h2 : -(x * y) ≤ (x.natAbs * y.natAbs : Nat) := by rw [← Int.natAbs_mul, ← Int.natAbs_neg]; exact Int.le_natAbs
  have h3 : ((x.natAbs * y.natAbs : Nat) : Int) ≤ A * B := by
    rw [Int.natCast_mul]
    exact Int.mul_le_mul (by omega) (by omega) (by omega) hA
  omega
theorem tdiv_range {a b B : Int} (h0 : -B ≤ a) (h1 : a ≤ B) : -B ≤ Int.tdiv a b ∧ Int.tdiv a b ≤ B := by
  have h := Int.natAbs_tdiv_le_natAbs a b
  omega
theorem ediv_is {y c d : Int} (hd : 0 < d) (h0 : c * d ≤ y) (h1 : y < (c + 1) * d) : y / d = c := by
  have a := Int.le_ediv_of_mul_le hd h0
  have b := Int.ediv_lt_of_lt_mul hd h1
  omega
theorem rdivI_succ (x : Int) (m : Nat) : rdivI x (m + 1) = if 0 ≤ x then (x + 2 ^ m) / 2 ^ (m + 1) else -((-x + 2 ^ m) / 2 ^ (m + 1)) := rfl
theorem rdivI_floor (x : Int) (m : Nat) : rdivI x (m + 1) = if x % 2 ^ (m + 1) > 2 ^ m ∨ (x % 2 ^ (m + 1) = 2 ^ m ∧ x > 0) then x / 2 ^ (m + 1) + 1 else x / 2 ^ (m + 1) := by
  have hp := pow2_pos m
  have hP := pow2_succ m
  have hr := Int.emod_nonneg x (show (2 : Int) ^ (m + 1) ≠ 0 by omega)
  have hr2 := Int.emod_lt_of_pos x (pow2_pos (m + 1))
  have hq := Int.mul_ediv_add_emod x (2 ^ (m + 1))
  rw [Int.mul_comm] at hq
  rw [rdivI_succ]
  generalize hqq : x / 2 ^ (m + 1) = q at *
  generalize hrr : x % 2 ^ (m + 1) = r at *
  generalize hPP : (2 : Int) ^ (m + 1) = D at *
  generalize (2 : Int) ^ m = P at *
  have e1 : ∀ c : Int, (c + 1) * D = c * D + D := fun c => by rw [Int.add_mul]; simp
  have e2 : (-q) * D = -(q * D) := by rw [Int.neg_mul]
  have e3 : (-q - 1) * D = -(q * D) - D := by rw [Int.sub_mul, Int.neg_mul]; simp
  by_cases hx : 0 ≤ x
  · simp only [if_pos hx]
    by_cases c : r > P ∨ (r = P ∧ x > 0)
    · rw [if_pos c]
      exact ediv_is (by omega) (by rw [e1]; omega) (by rw [e1, e1]; omega)
    · rw [if_neg c]
      have hq0 : 0 ≤ q := by rw [← hqq]; exact Int.ediv_nonneg hx (by omega)
      have hrP : r < P := by
        rcases Int.lt_trichotomy r P with h | h | h
        · exact h
        · exfalso
          have : ¬ x > 0 := fun hh => c (Or.inr ⟨h, hh⟩)
          have := Int.mul_nonneg hq0 (show 0 ≤ D by omega)
          omega
        · exact absurd (Or.inl h) c
      exact ediv_is (by omega) (by omega) (by rw [e1]; omega)
  · simp only [if_neg hx]
    by_cases c : r > P ∨ (r = P ∧ x > 0)
    · rw [if_pos c]
      have : (-x + P) / D = -q - 1 := ediv_is (by omega) (by rw [e3]; omega) (by rw [e1, e3]; omega)
      omega
    · rw [if_neg c]
      have : (-x + P) / D = -q := ediv_is (by omega) (by rw [e2]; omega) (by rw [e1, e2]; omega)
      omega
theorem rdivI_half (y : Int) (m : Nat) (hy : 0 ≤ y) : rdivI y (m + 1) = if y / 2 ^ m % 2 = 1 then y / 2 ^ (m + 1) + 1 else y / 2 ^ (m + 1) := by
  have hp := pow2_pos m
  have hP := pow2_succ m
  rw [rdivI_succ, if_pos hy]
  have e : (2 : Int) ^ (m + 1) = 2 ^ m * 2 := by rw [hP, Int.mul_comm]
  have h1 : y / 2 ^ (m + 1) = y / 2 ^ m / 2 := by rw [e, Int.ediv_ediv_of_nonneg (by omega)]
  have h2 : (y + 2 ^ m) / 2 ^ (m + 1) = (y / 2 ^ m + 1) / 2 := by
    rw [e, ← Int.ediv_ediv_of_nonneg (by omega)]
    congr 1
    have := Int.add_mul_ediv_right y 1 (show (2 : Int) ^ m ≠ 0 by omega)
    rw [Int.one_mul] at this
    exact this
  rw [h1, h2]
  split <;> omega
theorem clamp_prod (a b : Int) : -4611686018427387904 ≤ clampI a * clampI b ∧ clampI a * clampI b ≤ 4611686018427387904 := by
  have ha := clampI_range a
  have hb := clampI_range b
  have := prod_range (x := clampI a) (y := clampI b) (A := 2147483648) (B := 2147483648) (by omega) (by omega) (by omega) (by omega)
  omega
theorem tdiv4 {a : Int} (h0 : -9223372036854775808 ≤ a) (h1 : a ≤ 9223372036854775807) : -2305843009213693952 ≤ Int.tdiv a 4 ∧ Int.tdiv a 4 ≤ 2305843009213693951 := by
  have := Int.tdiv_eq_ediv (a := a) (b := 4)
  rw [this]
  have : Int.sign 4 = 1 := rfl
  rw [this]
  split <;> omega
theorem tdiv_split (a b : Int) (_hb : b ≠ 0) : a = Int.tdiv a b * b + Int.tmod a b := by
  have := Int.mul_tdiv_add_tmod a b
  rw [Int.mul_comm] at this; omega

/-! words of the print -/
theorem wrap64_id {x : Int} (h0 : -9223372036854775808 ≤ x) (h1 : x ≤ 9223372036854775807) : wrap64 x = x := by unfold wrap64; omega
theorem wrap64_range (x : Int) : -9223372036854775808 ≤ wrap64 x ∧ wrap64 x ≤ 9223372036854775807 := by unfold wrap64; omega
theorem wf64 {x : Int} (h : (Lit.int .i64 x).wf = true) : -9223372036854775808 ≤ x ∧ x ≤ 9223372036854775807 := by
  simp only [Lit.wf, IntKind.min, IntKind.max, IntKind.signed, IntKind.bits, Bool.and_eq_true, decide_eq_true_eq, if_true] at h
  omega
theorem wf8 {x : Int} (h : (Lit.int .i8 x).wf = true) : -128 ≤ x ∧ x ≤ 127 := by
  simp only [Lit.wf, IntKind.min, IntKind.max, IntKind.signed, IntKind.bits, Bool.and_eq_true, decide_eq_true_eq, if_true] at h
  omega
theorem wfu64 {x : Int} (h : (Lit.int .u64 x).wf = true) : 0 ≤ x ∧ x ≤ 18446744073709551615 := by
  simp only [Lit.wf, IntKind.min, IntKind.max, IntKind.signed, IntKind.bits, Bool.and_eq_true, decide_eq_true_eq] at h
  simp at h
  omega
theorem wfu8 {x : Int} (h : (Lit.int .u8 x).wf = true) : 0 ≤ x ∧ x ≤ 255 := by
  simp only [Lit.wf, IntKind.min, IntKind.max, IntKind.signed, IntKind.bits, Bool.and_eq_true, decide_eq_true_eq] at h
  simp at h
  omega
theorem wrapu64 (x : Int) : IntKind.u64.wrap x = x % 18446744073709551616 := by simp [IntKind.wrap, IntKind.bits, IntKind.signed]
theorem clamp_f1 (x : Int) : mx (mn x 2147483647) (-2147483648) = clampI x := by unfold mx mn clampI; (repeat' split) <;> omega
theorem clamp_f2 (x : Int) : mn 2147483647 (mx (-2147483648) x) = clampI x := by unfold mx mn clampI; (repeat' split) <;> omega
theorem wrap_toNat (v : BitVec 64) : IntKind.i64.wrap (v.toNat : Int) = v.toInt := by
  rw [IntKind.wrap_i64, BitVec.toInt_eq_msb_cond, BitVec.msb_eq_decide]
  have := v.isLt
  simp only [decide_eq_true_eq]
  split <;> omega
theorem bits_and64 (x y : Int) : Go.bits .and .i64 x y = (BitVec.ofInt 64 x &&& BitVec.ofInt 64 y).toInt := by
  show IntKind.i64.wrap _ = _
  exact wrap_toNat _
theorem bits_xor64 (x y : Int) : Go.bits .xor .i64 x y = (BitVec.ofInt 64 x ^^^ BitVec.ofInt 64 y).toInt := by
  show IntKind.i64.wrap _ = _
  exact wrap_toNat _
theorem msb_ofInt64 {x : Int} (h0 : -9223372036854775808 ≤ x) (h1 : x ≤ 9223372036854775807) : (BitVec.ofInt 64 x).msb = decide (x < 0) := by
  rw [BitVec.msb_eq_toInt, BitVec.toInt_ofInt]
  have : x.bmod (2 ^ 64) = x := by
    rw [Int.bmod_eq_of_le] <;> omega
  rw [this]
theorem sadd_sign {a b : Int} (ha0 : -9223372036854775808 ≤ a) (ha1 : a ≤ 9223372036854775807) (hb0 : -9223372036854775808 ≤ b) (hb1 : b ≤ 9223372036854775807) :
    (Go.bits .and .i64 (Go.bits .xor .i64 a (wrap64 (a + b))) (Go.bits .xor .i64 b (wrap64 (a + b))) ≥ 0) ↔ ¬ (((a < 0) ↔ ¬ (wrap64 (a + b) < 0)) ∧ ((b < 0) ↔ ¬ (wrap64 (a + b) < 0))) := by
  have hs := wrap64_range (a + b)
  rw [bits_and64, bits_xor64, bits_xor64, BitVec.ofInt_toInt, BitVec.ofInt_toInt]
  generalize hv : ((BitVec.ofInt 64 a ^^^ BitVec.ofInt 64 (wrap64 (a + b))) &&& (BitVec.ofInt 64 b ^^^ BitVec.ofInt 64 (wrap64 (a + b)))) = v
  have h1 : v.msb = ((decide (a < 0) ^^ decide (wrap64 (a + b) < 0)) && (decide (b < 0) ^^ decide (wrap64 (a + b) < 0))) := by
    rw [← hv, BitVec.msb_and, BitVec.msb_xor, BitVec.msb_xor, msb_ofInt64 ha0 ha1, msb_ofInt64 hb0 hb1, msb_ofInt64 hs.1 hs.2]
  rw [BitVec.msb_eq_toInt] at h1
  have h2 : (v.toInt ≥ 0) ↔ ¬ (v.toInt < 0) := by omega
  rw [h2, ← decide_eq_true_iff (p := v.toInt < 0), h1]
  by_cases x1 : a < 0 <;> by_cases x2 : b < 0 <;> by_cases x3 : wrap64 (a + b) < 0 <;> simp [x1, x2, x3]
theorem bits_mask64 (x : Int) (n : Nat) (hn : n ≤ 62) : Go.bits .and .i64 x (2 ^ n - 1) = x % 2 ^ n := by
  rw [bits_and64]
  have hp : 0 < 2 ^ n := Nat.two_pow_pos n
  have hle : 2 ^ n ≤ 2 ^ 62 := Nat.pow_le_pow_right (by decide) hn
  have hc : ((2 : Int) ^ n - 1) = ((2 ^ n - 1 : Nat) : Int) := by rw [Int.natCast_sub hp]; simp
  have hlt : 2 ^ n - 1 < 2 ^ 64 := by omega
  have hd : (2 : Nat) ^ n ∣ 2 ^ 64 := Nat.pow_dvd_pow 2 (by omega)
  have hN : (BitVec.ofInt 64 x &&& BitVec.ofInt 64 (2 ^ n - 1)).toNat = (x % 2 ^ 64).toNat % 2 ^ n := by
    rw [BitVec.toNat_and, hc, BitVec.ofInt_natCast, BitVec.toNat_ofNat, Nat.mod_eq_of_lt hlt, Nat.and_two_pow_sub_one_eq_mod]
    rw [BitVec.toNat_ofInt]
    rfl
  have hI : (x % 2 ^ 64).toNat % 2 ^ n = (x % 2 ^ n).toNat := by
    have h1 : ((x % 2 ^ 64).toNat : Int) = x % 2 ^ 64 := Int.toNat_of_nonneg (Int.emod_nonneg _ (by decide))
    have h2 : (((x % 2 ^ 64).toNat % 2 ^ n : Nat) : Int) = x % 2 ^ n := by
      rw [Int.natCast_emod, h1]
      have : ((2 ^ n : Nat) : Int) = (2 : Int) ^ n := by simp
      rw [this]
      exact Int.emod_emod_of_dvd x (by obtain ⟨c, hc2⟩ := hd; exact ⟨(c : Int), by have := congrArg (fun z : Nat => (z : Int)) hc2; simp at this; simpa using this⟩)
    omega
  have hpI : (0 : Int) < 2 ^ n := pow2_pos n
  have hl := Int.emod_lt_of_pos x hpI
  have hnn := Int.emod_nonneg x (show (2 : Int) ^ n ≠ 0 by omega)
  have hleI : (2 : Int) ^ n ≤ 2 ^ 62 := by exact_mod_cast hle
  rw [BitVec.toInt_eq_msb_cond, BitVec.msb_eq_decide, hN, hI]
  have : (2 : Int) ^ 62 = 4611686018427387904 := rfl
  rw [if_neg (by simp; omega)]
  omega
theorem pow2_le62 {n : Nat} (h : n ≤ 62) : (2 : Int) ^ n ≤ 4611686018427387904 := by
  have h1 : (2 : Nat) ^ n ≤ 4611686018427387904 := Nat.le_trans (Nat.pow_le_pow_right (by decide) h) (by decide)
  have h2 : ((2 ^ n : Nat) : Int) = (2 : Int) ^ n := by simp
  omega
end Go.Proofs.Ytdlinhegmplgiaa.Mth
