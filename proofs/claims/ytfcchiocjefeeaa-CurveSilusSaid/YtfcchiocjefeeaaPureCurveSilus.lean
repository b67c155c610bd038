/- Silu of a number is nought of nought, no greater than a number above nought (nor than nought, of one below), and never below -1/3: for any number, brought between -MaxNum and MaxNum. No condition. -/
import Derived.Test.YtfcchiocjefeeaaPCurveSilusx2
import Derived.Test.YtfcchiocjefeeaaMSat
import Derived.Test.YtfcchiocjefeeaaMCurve
set_option linter.unusedVariables false
set_option linter.unusedSimpArgs false
namespace Go.Proofs.Ytfcchiocjefeeaa.Pure
open Go Go.RowKit Go.Proofs.Ytfcchiocjefeeaa.PCurveSilus Go.Proofs.YtfcchiocjefeeaaW.PrintWords Go.Proofs.YtfcchiocjefeeaaW.PrintLast Go.Proofs.Ytfcchiocjefeeaa.Mth
theorem Clamp_eq (x : Int) : sat_Clamp.f x = some (clampI x) := by unfold sat_Clamp.f; rw [clamp_f1]
theorem Shift_eq {x : Int} (hx : -9223372036854775808 ≤ x ∧ x ≤ 9223372036854775807) (n : Int) : sat_Shift.f x n = some (shiftI x n) := by
  unfold sat_Shift.f shiftI
  have hm : mx (mn n 62) 0 = (nclampI n : Int) := by unfold mx mn nclampI; (repeat' split) <;> omega
  have hm2 : nclampI n ≤ 62 := by unfold nclampI; split <;> omega
  rw [hm]
  generalize nclampI n = m at *
  cases m with
  | zero => rfl
  | succ m =>
    rw [if_neg (by omega), if_pos (by omega)]
    have e1 : ((m + 1 : Nat) : Int).toNat = m + 1 := by omega
    have e2 : (((m + 1 : Nat) : Int) - 1).toNat = m := by omega
    rw [e1, e2]
    have hp := pow2_pos m
    have hP := pow2_succ m
    have hl := pow2_le62 hm2
    rw [wrap64_id (x := 2 ^ (m + 1)) (by omega) (by omega), wrap64_id (x := 2 ^ (m + 1) - 1) (by omega) (by omega), wrap64_id (x := 2 ^ m) (by omega) (by omega), bits_mask64 x (m + 1) hm2]
    have hr := Int.emod_nonneg x (show (2 : Int) ^ (m + 1) ≠ 0 by omega)
    have hr2 := Int.emod_lt_of_pos x (pow2_pos (m + 1))
    have hq := Int.mul_ediv_add_emod x (2 ^ (m + 1))
    have hqb : -9223372036854775808 ≤ x / 2 ^ (m + 1) + 1 ∧ x / 2 ^ (m + 1) + 1 ≤ 9223372036854775807 := by
      have h1 : x / 2 ^ (m + 1) ≤ 4611686018427387904 := by
        have := Int.ediv_le_ediv (c := 2 ^ (m + 1)) (by omega) hx.2
        have h3 : 9223372036854775807 / (2 : Int) ^ (m + 1) ≤ 4611686018427387904 := by
          have := Int.ediv_lt_of_lt_mul (a := 9223372036854775807) (b := 4611686018427387905) (c := 2 ^ (m + 1)) (by omega) (by omega)
          omega
        omega
      have h2 : -9223372036854775808 ≤ x / 2 ^ (m + 1) := by
        refine Int.le_ediv_of_mul_le (by omega) ?_
        omega
      omega
    rw [wrap64_id hqb.1 hqb.2]
    have key := rdivI_floor x m
    by_cases c : x % 2 ^ (m + 1) > 2 ^ m
    · rw [if_pos c, key, if_pos (Or.inl c)]
    · rw [if_neg c]
      by_cases d : x % 2 ^ (m + 1) = 2 ^ m
      · rw [if_pos d]
        by_cases e : x > 0
        · rw [if_pos e, key, if_pos (Or.inr ⟨d, e⟩)]
        · rw [if_neg e, key, if_neg (by omega)]
      · rw [if_neg d, key, if_neg (by omega)]
theorem Mul_eq (a b : Int) : sat_Mul.f a b = some (mulI a b) := by
  unfold sat_Mul.f mulI
  have h := clamp_prod a b
  rw [Clamp_eq, Clamp_eq]; simp only [Option.bind_some]
  rw [wrap64_id (by omega) (by omega), Shift_eq ⟨by omega, by omega⟩]; simp only [Option.bind_some]
  rw [Clamp_eq]; rfl
theorem Div_eq (a b : Int) : sat_Div.f a b = some (divI a b) := by
  unfold sat_Div.f divI
  have ha := clampI_range a
  have hb := clampI_range b
  rw [Clamp_eq, Clamp_eq]; simp only [Option.bind_some]
  by_cases c : clampI b = 0
  · rw [if_pos c, if_pos c]; (repeat' split) <;> rfl
  · rw [if_neg c, if_neg c]
    have h := tdiv_range (a := clampI a * 65536) (b := clampI b) (B := 140737488355328) (by omega) (by omega)
    rw [wrap64_id (x := clampI a * 65536) (by omega) (by omega), wrap64_id (by omega) (by omega), Clamp_eq]; rfl
theorem powers_eq {i : Int} (h0 : 0 ≤ i) (h1 : i < 17) : curve_powers.f i = some (rd powT i) := by
  unfold curve_powers.f; rw [if_pos h0, if_pos h1]; rfl
theorem Exp_eq (x : Int) : curve_Exp.f x = some (expI x) := by
  unfold curve_Exp.f
  have hm : mn x 0 = if 0 < x then 0 else x := rfl
  have ht := exptI_range x
  have e1 : mulI (if 0 < x then 0 else x) 94548 = - exptI x := by unfold exptI; omega
  rw [hm, Mul_eq, e1]; simp only [Option.bind_some]
  unfold expI
  generalize exptI x = t at *
  have e2 : wrap64 (-(-t)) = t := by rw [Int.neg_neg]; exact wrap64_id (by omega) (by omega)
  have e3 : Go.bits .and .i64 t 65535 = t % 65536 := bits_mask64 t 16 (by decide)
  have e4 : Go.bits .and .i64 (t % 65536) 4095 = t % 65536 % 4096 := bits_mask64 (t % 65536) 12 (by decide)
  rw [e2, e3, e4]
  unfold expTI
  by_cases c : t / 65536 > 16
  · rw [if_pos c, if_pos c]
  · rw [if_neg c, if_neg c]
    have hf : 0 ≤ t % 65536 ∧ t % 65536 < 65536 := by omega
    rw [wrap64_id (x := t % 65536 / 4096 + 1) (by omega) (by omega), powers_eq (by omega) (by omega), powers_eq (by omega) (by omega)]
    simp only [Option.bind_some]
    rw [if_pos (by omega)]
    have hp := pow_at hf.1 hf.2
    have hv := powv_bound hf.1 hf.2
    unfold powv at hv ⊢
    generalize rd powT (t % 65536 / 4096) = a at *
    generalize rd powT (t % 65536 / 4096 + 1) = b at *
    have hg : 0 ≤ t % 65536 % 4096 ∧ t % 65536 % 4096 ≤ 4096 := by omega
    have h2 : 0 ≤ (a - b) * (t % 65536 % 4096) := Int.mul_nonneg (by omega) hg.1
    have h3 : (a - b) * (t % 65536 % 4096) ≤ (a - b) * 4096 := Int.mul_le_mul_of_nonneg_left hg.2 (by omega)
    rw [wrap64_id (x := a - b) (by omega) (by omega)]
    generalize (a - b) * (t % 65536 % 4096) = p at *
    rw [wrap64_id (x := p) (by omega) (by omega), wrap64_id (x := a - p / 4096) (by omega) (by omega)]
    unfold shr
    rw [show min ((t / 65536).toNat) IntKind.i64.bits = (t / 65536).toNat by simp [IntKind.bits]; omega]
theorem Rsqrt_l0 : ∀ (n k : Nat) (M lo hi : Int), n < k → 0 ≤ lo → lo < hi → hi ≤ 16777217 → hi - lo ≤ 2 ^ n → curve_Rsqrt.l0 k M lo hi = some (bsI n M lo hi)
  | n, 0, M, lo, hi, hk, h0, h1, h2, h3 => by omega
  | 0, k + 1, M, lo, hi, hk, h0, h1, h2, h3 => by
    have : hi = lo + 1 := by simp at h3; omega
    subst this
    simp only [curve_Rsqrt.l0]
    rw [wrap64_id (by omega) (by omega), if_neg (by omega)]
    rfl
  | n + 1, k + 1, M, lo, hi, hk, h0, h1, h2, h3 => by
    have hP := pow2_succ n
    simp only [curve_Rsqrt.l0]
    unfold bsI
    have e1 : wrap64 (Int.tdiv (wrap64 (lo + hi)) 2) = (lo + hi) / 2 := by
      rw [wrap64_id (x := lo + hi) (by omega) (by omega), Int.tdiv_eq_ediv_of_nonneg (by omega)]
      exact wrap64_id (by omega) (by omega)
    rw [wrap64_id (x := hi - lo) (by omega) (by omega), e1]
    by_cases c : hi - lo > 1
    · have hs : (lo + hi) / 2 * ((lo + hi) / 2) ≤ 16777217 * 16777217 := sq_mono (by omega) (by omega)
      have hs0 : 0 ≤ (lo + hi) / 2 * ((lo + hi) / 2) := Int.mul_nonneg (by omega) (by omega)
      rw [if_pos c, if_pos c, wrap64_id (x := (lo + hi) / 2 * ((lo + hi) / 2)) (by omega) (by omega)]
      by_cases d : (lo + hi) / 2 * ((lo + hi) / 2) ≤ M
      · rw [if_pos d, if_pos d]
        exact Rsqrt_l0 n k M _ hi (by omega) (by omega) (by omega) (by omega) (by omega)
      · rw [if_neg d, if_neg d]
        exact Rsqrt_l0 n k M lo _ (by omega) (by omega) (by omega) (by omega) (by omega)
    · rw [if_neg c, if_neg c]
theorem Rsqrt_eq {k : Nat} (hk : 25 < k) (x : Int) : curve_Rsqrt.f k x = some (rsqrtI x) := by
  unfold curve_Rsqrt.f rsqrtI
  rw [Clamp_eq]; simp only [Option.bind_some]
  by_cases c : clampI x < 1
  · rw [if_pos c, if_pos c]
  · have hq := quo_range (x := clampI x) (by omega)
    rw [if_neg c, if_neg c, if_neg (by omega), Int.tdiv_eq_ediv_of_nonneg (by decide), wrap64_id (by omega) (by omega)]
    exact Rsqrt_l0 25 k _ 0 16777217 hk (by decide) (by decide) (by decide) (by decide)
theorem Sig_eq {k : Nat} (hk : 1 < k) (x : Int) : curve_Sig.f k x = some (sigI x) := by
  obtain ⟨k, rfl⟩ : ∃ m, k = m + 2 := ⟨k - 2, by omega⟩
  have hc := clampI_range x
  have pos : ∀ (j : Nat) (y : Int), 0 ≤ clampI y → curve_Sig.f (j + 1) y = some (sigPI (clampI y)) := by
    intro j y hy
    have hyr := clampI_range y
    have he := expI_range (-(clampI y))
    simp only [curve_Sig.f]
    rw [Clamp_eq]; simp only [Option.bind_some]
    rw [if_neg (by omega), wrap64_id (x := -(clampI y)) (by omega) (by omega), Exp_eq]; simp only [Option.bind_some]
    rw [wrap64_id (by omega) (by omega), Div_eq]
    rfl
  unfold sigI
  by_cases c : clampI x < 0
  · rw [if_pos c]
    have hs := sigPI_eq (clampI (-(clampI x)))
    have hn : 0 ≤ clampI (-(clampI x)) := by have := clampI_mono (show 0 ≤ -(clampI x) by omega); have e : clampI 0 = 0 := by decide
                                             omega
    simp only [curve_Sig.f]
    rw [Clamp_eq]; simp only [Option.bind_some]
    rw [if_pos c, wrap64_id (x := -(clampI x)) (by omega) (by omega)]
    have h2 := pos k (-(clampI x)) hn
    simp only [curve_Sig.f] at h2
    rw [h2]; simp only [Option.bind_some]
    rw [wrap64_id (by omega) (by omega)]
  · rw [if_neg c]
    exact pos (k + 1) x (by omega)
theorem Silu_eq {k : Nat} (hk : 1 < k) (x : Int) : curve_Silu.f k x = some (siluI x) := by
  unfold curve_Silu.f siluI; rw [Sig_eq hk]; simp only [Option.bind_some]; rw [Mul_eq]; rfl
theorem Cos_eq {k : Nat} (hk : 1 < k) (n : Int) : curve_Cos.f k n = some (cosI n) := by
  obtain ⟨k, rfl⟩ : ∃ m, k = m + 2 := ⟨k - 2, by omega⟩
  have lo : ∀ (j : Nat) (m : Int), 0 ≤ m % 16 → m % 16 ≤ 8 → curve_Cos.f (j + 1) m = some (cosI m) := by
    intro j m h0 h1
    simp only [curve_Cos.f]
    rw [bits15]
    unfold cosI
    generalize m % 16 = i at *
    obtain rfl | rfl | rfl | rfl | rfl | rfl | rfl | rfl | rfl : i = 0 ∨ i = 1 ∨ i = 2 ∨ i = 3 ∨ i = 4 ∨ i = 5 ∨ i = 6 ∨ i = 7 ∨ i = 8 := by omega
    all_goals first | rfl | (rw [if_neg (by decide), if_pos (by decide)]; decide +kernel)
  by_cases c : n % 16 ≤ 8
  · exact lo (k + 1) n (by omega) c
  · rw [show k + 2 = (k + 1) + 1 from rfl]
    have h2 := lo k (16 - n % 16) (by omega) (by omega)
    generalize k + 1 = j at *
    simp only [curve_Cos.f]
    rw [bits15, if_neg (by omega), if_neg (by omega), wrap64_id (by omega) (by omega), h2]
    simp only [Option.bind_some]
    have hb : n % 16 < 16 := by omega
    unfold cosI
    generalize n % 16 = i at *
    obtain rfl | rfl | rfl | rfl | rfl | rfl | rfl : i = 9 ∨ i = 10 ∨ i = 11 ∨ i = 12 ∨ i = 13 ∨ i = 14 ∨ i = 15 := by omega
    all_goals first | rfl | decide +kernel
theorem Sin_eq {k : Nat} (hk : 1 < k) (n : Int) : curve_Sin.f k n = some (sinI n) := by
  unfold curve_Sin.f
  rw [bits15, wrap64_id (by omega) (by omega), Cos_eq hk]; simp only [Option.bind_some]
  unfold cosI sinI
  obtain h | h | h | h | h | h | h | h | h | h | h | h | h | h | h | h : n % 16 = 0 ∨ n % 16 = 1 ∨ n % 16 = 2 ∨ n % 16 = 3 ∨ n % 16 = 4 ∨ n % 16 = 5 ∨ n % 16 = 6 ∨ n % 16 = 7 ∨ n % 16 = 8 ∨ n % 16 = 9 ∨ n % 16 = 10 ∨ n % 16 = 11 ∨ n % 16 = 12 ∨ n % 16 = 13 ∨ n % 16 = 14 ∨ n % 16 = 15 := by omega
  all_goals (have e : (n % 16 - 4) % 16 = (n % 16 + 12) % 16 := by omega
             rw [e, h]; first | rfl | decide +kernel)
theorem works_eq : aviarylaw03_works.f 40 = some true := by decide +kernel
theorem silu_steps : ∀ j : Fin 100, ((j : Nat) + 1 : Int) * 8192 * sigI (-((j : Nat) * 8192 : Int)) ≤ 1431633920 := by decide +kernel
theorem sig_neg {x : Int} (h0 : -2147483647 ≤ x) (h : x < 0) : sigI x = 65536 - 4294967296 / (65536 + expI x) := by
  unfold sigI
  rw [clampI_id (x := x) (by omega) (by omega), if_pos h, clampI_id (x := -x) (by omega) (by omega), (sigPI_eq (-x)).1, Int.neg_neg]
theorem sig_mono_neg {x y : Int} (h0 : -2147483647 ≤ x) (h : x ≤ y) (h1 : y < 0) : sigI x ≤ sigI y := by
  rw [sig_neg h0 (by omega), sig_neg (by omega) h1]
  have hm := expI_mono h
  have hx := expI_range x
  have hy := expI_range y
  have : 4294967296 / (65536 + expI y) ≤ 4294967296 / (65536 + expI x) := by
    refine Int.le_ediv_of_mul_le (by omega) ?_
    have h2 := Int.ediv_mul_le 4294967296 (show 65536 + expI y ≠ 0 by omega)
    have h3 := Int.mul_le_mul_of_nonneg_left (show 65536 + expI x ≤ 65536 + expI y by omega) (show 0 ≤ 4294967296 / (65536 + expI y) from Int.ediv_nonneg (by decide) (by omega))
    omega
  omega
theorem silu_low {x : Int} (h0 : -2147483647 ≤ x) (h : x < 0) : -1431633920 ≤ x * sigI x ∧ x * sigI x ≤ 0 := by
  have hs := sigI_range x
  have hneg : x * sigI x ≤ 0 := by
    have := Int.mul_nonneg (show 0 ≤ -x by omega) hs.1
    rw [Int.neg_mul] at this; omega
  refine ⟨?_, hneg⟩
  have key : ∀ n : Nat, n < 100 → (n : Int) * 8192 ≤ -x → -x ≤ ((n : Int) + 1) * 8192 → -1431633920 ≤ x * sigI x := by
    intro n hn ha hb
    have hst := silu_steps ⟨n, hn⟩
    simp only at hst
    have hmn : sigI x ≤ sigI (-((n : Int) * 8192)) := by
      by_cases c : n = 0
      · subst c
        have e : sigI (-(((0 : Nat) : Int) * 8192)) = 32768 := by decide +kernel
        rw [e]
        rw [sig_neg h0 h]
        have hx := expI_range x
        have := Int.le_ediv_of_mul_le (a := 32768) (b := 4294967296) (c := 65536 + expI x) (by omega) (by omega)
        omega
      · exact sig_mono_neg h0 (by omega) (by omega)
    have h2 : -x * sigI x ≤ (((n : Int) + 1) * 8192) * sigI (-((n : Int) * 8192)) := Int.mul_le_mul hb hmn hs.1 (by omega)
    rw [Int.neg_mul] at h2
    omega
  by_cases c : -x < 819200
  · exact key ((-x) / 8192).toNat (by omega) (by omega) (by omega)
  · have h1 := sig_mono_neg (x := x) (y := -819200) h0 (by omega) (by decide)
    have e : sigI (-819200) = 0 := by decide +kernel
    have : sigI x = 0 := by omega
    rw [this]; omega
theorem CurveSilus : aviarylaw03_CurveSilus.Pure := by
  intro a ha
  refine ⟨40, ?_⟩
  unfold aviarylaw03_CurveSilus.f
  rw [works_eq, Option.bind_some, if_pos rfl]
  have hx : -2147483647 ≤ mn 2147483647 (mx (-2147483647) a) ∧ mn 2147483647 (mx (-2147483647) a) ≤ 2147483647 := by unfold mn mx; (repeat' split) <;> omega
  generalize mn 2147483647 (mx (-2147483647) a) = x at *
  rw [Silu_eq (by omega)]; simp only [Option.bind_some]
  have hs := sigI_range x
  have e1 : clampI x = x := clampI_id (by omega) (by omega)
  have e2 : clampI (sigI x) = sigI x := clampI_id (by omega) (by omega)
  have hy : -21845 ≤ siluI x ∧ siluI x ≤ mx 0 x ∧ (x = 0 → siluI x = 0) := by
    unfold siluI mulI
    rw [e1, e2]
    by_cases c : x < 0
    · have hl := silu_low (by omega) c
      have h1 := rdivI_mono 16 hl.1
      have h2 := rdivI_mono 16 hl.2
      have q1 := rdivI_mul (-21845) 16
      rw [rdivI_zero] at h2
      have q2 : (-21845 : Int) * 2 ^ 16 = -1431633920 := by decide
      rw [q2] at q1
      rw [clampI_id (by omega) (by omega)]
      unfold mx
      rw [if_neg (by omega)]
      omega
    · have h0 : 0 ≤ x * sigI x := Int.mul_nonneg (by omega) hs.1
      have h1 : x * sigI x ≤ x * 2 ^ 16 := Int.mul_le_mul_of_nonneg_left hs.2 (by omega)
      have q0 := rdivI_mono 16 h0
      have q1 := rdivI_mono 16 h1
      rw [rdivI_mul] at q1
      rw [rdivI_zero] at q0
      rw [clampI_id (by omega) (by omega)]
      unfold mx
      split <;> omega
  rw [if_pos (by omega), if_pos hy.2.1]
  by_cases c : x = 0
  · rw [if_pos c, hy.2.2 c]; rfl
  · rw [if_neg c]

end Go.Proofs.Ytfcchiocjefeeaa.Pure
