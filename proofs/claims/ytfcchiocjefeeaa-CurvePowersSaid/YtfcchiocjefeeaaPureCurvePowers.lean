/- Exp and Rsqrt of the program equal those of the reference, for any number of 64 bits. No condition. -/
import Derived.Test.YtfcchiocjefeeaaPCurvePowersx1
import Derived.Test.YtfcchiocjefeeaaMSat
import Derived.Test.YtfcchiocjefeeaaMCurve
set_option linter.unusedVariables false
set_option linter.unusedSimpArgs false
namespace Go.Proofs.Ytfcchiocjefeeaa.Pure
open Go Go.RowKit Go.Proofs.Ytfcchiocjefeeaa.PCurvePowers Go.Proofs.YtfcchiocjefeeaaW.PrintWords Go.Proofs.YtfcchiocjefeeaaW.PrintLast Go.Proofs.Ytfcchiocjefeeaa.Mth
theorem Clamp_eq (x : Int) : sat_Clamp.f x = some (clampI x) := by unfold sat_Clamp.f; rw [clamp_f1]
theorem rClamp_eq (x : Int) : aviaryref01_Clamp.f x = some (clampI x) := by unfold aviaryref01_Clamp.f; rw [clamp_f2]
theorem Shift_eq {x : Int} (hx : -9223372036854775808 ≤ x ∧ x ≤ 9223372036854775807) (n : Int) : sat_Shift.f x n = some (shiftI x n) := by
  unfold sat_Shift.f shiftI
  have hm : mx (mn n 62) 0 = (nclampI n : Int) := by unfold mx mn nclampI; (repeat' split) <;> omega
  have hm2 : nclampI n ≤ 62 := by unfold nclampI; split <;> omega
  rw [hm]
  generalize nclampI n = m at *
  cases m with
  | zero => rfl
  | succ m =>
    rw [if_neg (by omega), if_pos (by omega)]
    have e1 : ((m + 1 : Nat) : Int).toNat = m + 1 := by omega
    have e2 : (((m + 1 : Nat) : Int) - 1).toNat = m := by omega
    rw [e1, e2]
    have hp := pow2_pos m
    have hP := pow2_succ m
    have hl := pow2_le62 hm2
    rw [wrap64_id (x := 2 ^ (m + 1)) (by omega) (by omega), wrap64_id (x := 2 ^ (m + 1) - 1) (by omega) (by omega), wrap64_id (x := 2 ^ m) (by omega) (by omega), bits_mask64 x (m + 1) hm2]
    have hr := Int.emod_nonneg x (show (2 : Int) ^ (m + 1) ≠ 0 by omega)
    have hr2 := Int.emod_lt_of_pos x (pow2_pos (m + 1))
    have hq := Int.mul_ediv_add_emod x (2 ^ (m + 1))
    have hqb : -9223372036854775808 ≤ x / 2 ^ (m + 1) + 1 ∧ x / 2 ^ (m + 1) + 1 ≤ 9223372036854775807 := by
      have h1 : x / 2 ^ (m + 1) ≤ 4611686018427387904 := by
        have := Int.ediv_le_ediv (c := 2 ^ (m + 1)) (by omega) hx.2
        have h3 : 9223372036854775807 / (2 : Int) ^ (m + 1) ≤ 4611686018427387904 := by
          have := Int.ediv_lt_of_lt_mul (a := 9223372036854775807) (b := 4611686018427387905) (c := 2 ^ (m + 1)) (by omega) (by omega)
          omega
        omega
      have h2 : -9223372036854775808 ≤ x / 2 ^ (m + 1) := by
        refine Int.le_ediv_of_mul_le (by omega) ?_
        omega
      omega
    rw [wrap64_id hqb.1 hqb.2]
    have key := rdivI_floor x m
    by_cases c : x % 2 ^ (m + 1) > 2 ^ m
    · rw [if_pos c, key, if_pos (Or.inl c)]
    · rw [if_neg c]
      by_cases d : x % 2 ^ (m + 1) = 2 ^ m
      · rw [if_pos d]
        by_cases e : x > 0
        · rw [if_pos e, key, if_pos (Or.inr ⟨d, e⟩)]
        · rw [if_neg e, key, if_neg (by omega)]
      · rw [if_neg d, key, if_neg (by omega)]
theorem rShift_eq {k : Nat} (hk : 0 < k) {x : Int} (hx : -9223372036854775808 ≤ x ∧ x ≤ 9223372036854775807) (n : Int) : aviaryref01_Shift.f k x n = some (shiftI x n) := by
  obtain ⟨k, rfl⟩ : ∃ m, k = m + 1 := ⟨k - 1, by omega⟩
  unfold aviaryref01_Shift.f shiftI
  have hm : mn 62 (mx 0 n) = (nclampI n : Int) := by unfold mx mn nclampI; (repeat' split) <;> omega
  have hm2 : nclampI n ≤ 62 := by unfold nclampI; split <;> omega
  rw [hm]
  generalize nclampI n = m at *
  cases m with
  | zero => rfl
  | succ m =>
    have hp := pow2_pos m
    have hP := pow2_succ m
    have hl := pow2_le62 hm2
    have e1 : wrap64 (((m + 1 : Nat) : Int) - 1) = (m : Int) := by unfold wrap64; omega
    have e2 : ∀ y : Int, shr .u64 y ((m + 1 : Nat) : Int) = y / 2 ^ (m + 1) := fun y => by unfold shr; rw [show min (((m + 1 : Nat) : Int).toNat) IntKind.u64.bits = m + 1 by simp [IntKind.bits]; omega]
    have e3 : ∀ y : Int, shr .u64 y (m : Int) = y / 2 ^ m := fun y => by unfold shr; rw [show min ((m : Int).toNat) IntKind.u64.bits = m by simp [IntKind.bits]; omega]
    have key : ∀ y : Int, 0 ≤ y → y ≤ 9223372036854775808 → 0 ≤ y / 2 ^ (m + 1) ∧ y / 2 ^ (m + 1) ≤ 4611686018427387904 := by
      intro y h0 h1
      refine ⟨Int.ediv_nonneg h0 (by omega), ?_⟩
      have := Int.ediv_lt_of_lt_mul (a := y) (b := 4611686018427387905) (c := 2 ^ (m + 1)) (by omega) (by omega)
      omega
    rw [if_neg (by omega)]
    by_cases c : x < 0
    · have e4 : IntKind.u64.wrap (IntKind.u64.wrap (wrap64 (-wrap64 (x + 1))) + 1) = -x := by rw [wrapu64, wrapu64]; unfold wrap64; omega
      rw [if_pos c, e4]
      simp only [aviaryref01_Shift.j0]
      rw [if_pos (by omega), e1, if_pos (by omega), e2, e3, if_pos c, if_pos c, wrapu64]
      have hk := key (-x) (by omega) (by omega)
      have hr := rdivI_half (-x) m (by omega)
      have hh := Int.tmod_eq_emod_of_nonneg (a := -x / 2 ^ m) (b := 2) (Int.ediv_nonneg (by omega) (by omega))
      rw [hh]
      have hx2 : rdivI x (m + 1) = - rdivI (-x) (m + 1) := by rw [rdivI_neg]; omega
      rw [hx2, hr]
      by_cases d : -x / 2 ^ m % 2 = 1
      · rw [if_pos d, if_pos d]; congr 1; unfold wrap64; omega
      · rw [if_neg d, if_neg d]; congr 1; unfold wrap64; omega
    · have e4 : IntKind.u64.wrap x = x := by rw [wrapu64]; omega
      rw [if_neg c, e4]
      simp only [aviaryref01_Shift.j0]
      rw [if_pos (by omega), e1, if_pos (by omega), e2, e3, if_neg c, if_neg c, wrapu64]
      have hk := key x (by omega) (by omega)
      have hr := rdivI_half x m (by omega)
      have hh := Int.tmod_eq_emod_of_nonneg (a := x / 2 ^ m) (b := 2) (Int.ediv_nonneg (by omega) (by omega))
      rw [hh, hr]
      by_cases d : x / 2 ^ m % 2 = 1
      · rw [if_pos d, if_pos d]; congr 1; unfold wrap64; omega
      · rw [if_neg d, if_neg d]; congr 1; unfold wrap64; omega
theorem Mul_eq (a b : Int) : sat_Mul.f a b = some (mulI a b) := by
  unfold sat_Mul.f mulI
  have h := clamp_prod a b
  rw [Clamp_eq, Clamp_eq]; simp only [Option.bind_some]
  rw [wrap64_id (by omega) (by omega), Shift_eq ⟨by omega, by omega⟩]; simp only [Option.bind_some]
  rw [Clamp_eq]; rfl
theorem rMul_eq {k : Nat} (hk : 0 < k) (a b : Int) : aviaryref01_Mul.f k a b = some (mulI a b) := by
  unfold aviaryref01_Mul.f mulI
  have h := clamp_prod a b
  rw [rClamp_eq, rClamp_eq]; simp only [Option.bind_some]
  rw [wrap64_id (by omega) (by omega), rShift_eq hk ⟨by omega, by omega⟩]; simp only [Option.bind_some]
  rw [rClamp_eq]; rfl
theorem powers_eq {i : Int} (h0 : 0 ≤ i) (h1 : i < 17) : curve_powers.f i = some (rd powT i) := by
  unfold curve_powers.f; rw [if_pos h0, if_pos h1]; rfl
theorem Exp_eq (x : Int) : curve_Exp.f x = some (expI x) := by
  unfold curve_Exp.f
  have hm : mn x 0 = if 0 < x then 0 else x := rfl
  have ht := exptI_range x
  have e1 : mulI (if 0 < x then 0 else x) 94548 = - exptI x := by unfold exptI; omega
  rw [hm, Mul_eq, e1]; simp only [Option.bind_some]
  unfold expI
  generalize exptI x = t at *
  have e2 : wrap64 (-(-t)) = t := by rw [Int.neg_neg]; exact wrap64_id (by omega) (by omega)
  have e3 : Go.bits .and .i64 t 65535 = t % 65536 := bits_mask64 t 16 (by decide)
  have e4 : Go.bits .and .i64 (t % 65536) 4095 = t % 65536 % 4096 := bits_mask64 (t % 65536) 12 (by decide)
  rw [e2, e3, e4]
  unfold expTI
  by_cases c : t / 65536 > 16
  · rw [if_pos c, if_pos c]
  · rw [if_neg c, if_neg c]
    have hf : 0 ≤ t % 65536 ∧ t % 65536 < 65536 := by omega
    rw [wrap64_id (x := t % 65536 / 4096 + 1) (by omega) (by omega), powers_eq (by omega) (by omega), powers_eq (by omega) (by omega)]
    simp only [Option.bind_some]
    rw [if_pos (by omega)]
    have hp := pow_at hf.1 hf.2
    have hv := powv_bound hf.1 hf.2
    unfold powv at hv ⊢
    generalize rd powT (t % 65536 / 4096) = a at *
    generalize rd powT (t % 65536 / 4096 + 1) = b at *
    have hg : 0 ≤ t % 65536 % 4096 ∧ t % 65536 % 4096 ≤ 4096 := by omega
    have h2 : 0 ≤ (a - b) * (t % 65536 % 4096) := Int.mul_nonneg (by omega) hg.1
    have h3 : (a - b) * (t % 65536 % 4096) ≤ (a - b) * 4096 := Int.mul_le_mul_of_nonneg_left hg.2 (by omega)
    rw [wrap64_id (x := a - b) (by omega) (by omega)]
    generalize (a - b) * (t % 65536 % 4096) = p at *
    rw [wrap64_id (x := p) (by omega) (by omega), wrap64_id (x := a - p / 4096) (by omega) (by omega)]
    unfold shr
    rw [show min ((t / 65536).toNat) IntKind.i64.bits = (t / 65536).toNat by simp [IntKind.bits]; omega]
theorem rExp_eq {k : Nat} (hk : 0 < k) (x : Int) : aviaryref03_Exp.f k x = some (expI x) := by
  unfold aviaryref03_Exp.f
  have hm : mn 0 x = if 0 < x then 0 else x := by unfold mn; (repeat' split) <;> omega
  have ht := exptI_range x
  have e1 : mulI (if 0 < x then 0 else x) 94548 = - exptI x := by unfold exptI; omega
  simp only [Option.bind_some]
  rw [hm, rMul_eq hk, e1]; simp only [Option.bind_some]
  unfold expI
  generalize exptI x = t at *
  have e2 : wrap64 (-(-t)) = t := by rw [Int.neg_neg]; exact wrap64_id (by omega) (by omega)
  have e3 : Int.tmod t 65536 = t % 65536 := Int.tmod_eq_emod_of_nonneg (by omega)
  have e4 : Int.tmod (t % 65536) 4096 = t % 65536 % 4096 := Int.tmod_eq_emod_of_nonneg (by omega)
  have e5 : wrap64 (Int.tdiv (t % 65536) 4096) = t % 65536 / 4096 := by rw [Int.tdiv_eq_ediv_of_nonneg (by omega)]; exact wrap64_id (by omega) (by omega)
  have e6 : wrap64 (Int.tdiv t 65536) = t / 65536 := by rw [Int.tdiv_eq_ediv_of_nonneg (by omega)]; exact wrap64_id (by omega) (by omega)
  have e7 : wrap64 (t % 65536 / 4096 + 1) = t % 65536 / 4096 + 1 := wrap64_id (by omega) (by omega)
  have hl : (([65536, 62757, 60097, 57549, 55109, 52773, 50535, 48393, 46341, 44376, 42495, 40693, 38968, 37316, 35734, 34219, 32768] : List Int).length : Int) = 17 := rfl
  rw [e2, e3, e4, e5, e6, e7, hl, if_pos (by omega), if_pos (by omega), if_pos (by omega), if_pos (by omega)]
  unfold expTI
  by_cases c : t / 65536 > 16
  · rw [if_pos c, if_pos c]
  · rw [if_neg c, if_neg c]
    have hf : 0 ≤ t % 65536 ∧ t % 65536 < 65536 := by omega
    rw [if_pos (by omega)]
    have hp := pow_at hf.1 hf.2
    have hv := powv_bound hf.1 hf.2
    unfold powv at hv ⊢
    unfold powT at hp hv ⊢
    generalize rd _ (t % 65536 / 4096) = a at *
    generalize rd _ (t % 65536 / 4096 + 1) = b at *
    have hg : 0 ≤ t % 65536 % 4096 ∧ t % 65536 % 4096 ≤ 4096 := by omega
    have h2 : 0 ≤ (a - b) * (t % 65536 % 4096) := Int.mul_nonneg (by omega) hg.1
    have h3 : (a - b) * (t % 65536 % 4096) ≤ (a - b) * 4096 := Int.mul_le_mul_of_nonneg_left hg.2 (by omega)
    rw [wrap64_id (x := a - b) (by omega) (by omega)]
    generalize (a - b) * (t % 65536 % 4096) = p at *
    have e8 : wrap64 (Int.tdiv p 4096) = p / 4096 := by rw [Int.tdiv_eq_ediv_of_nonneg (by omega)]; exact wrap64_id (by omega) (by omega)
    rw [wrap64_id (x := p) (by omega) (by omega), e8, wrap64_id (x := a - p / 4096) (by omega) (by omega)]
    unfold shr
    rw [show min ((t / 65536).toNat) IntKind.i64.bits = (t / 65536).toNat by simp [IntKind.bits]; omega]
theorem Rsqrt_l0 : ∀ (n k : Nat) (M lo hi : Int), n < k → 0 ≤ lo → lo < hi → hi ≤ 16777217 → hi - lo ≤ 2 ^ n → curve_Rsqrt.l0 k M lo hi = some (bsI n M lo hi)
  | n, 0, M, lo, hi, hk, h0, h1, h2, h3 => by omega
  | 0, k + 1, M, lo, hi, hk, h0, h1, h2, h3 => by
    have : hi = lo + 1 := by simp at h3; omega
    subst this
    simp only [curve_Rsqrt.l0]
    rw [wrap64_id (by omega) (by omega), if_neg (by omega)]
    rfl
  | n + 1, k + 1, M, lo, hi, hk, h0, h1, h2, h3 => by
    have hP := pow2_succ n
    simp only [curve_Rsqrt.l0]
    unfold bsI
    have e1 : wrap64 (Int.tdiv (wrap64 (lo + hi)) 2) = (lo + hi) / 2 := by
      rw [wrap64_id (x := lo + hi) (by omega) (by omega), Int.tdiv_eq_ediv_of_nonneg (by omega)]
      exact wrap64_id (by omega) (by omega)
    rw [wrap64_id (x := hi - lo) (by omega) (by omega), e1]
    by_cases c : hi - lo > 1
    · have hs : (lo + hi) / 2 * ((lo + hi) / 2) ≤ 16777217 * 16777217 := sq_mono (by omega) (by omega)
      have hs0 : 0 ≤ (lo + hi) / 2 * ((lo + hi) / 2) := Int.mul_nonneg (by omega) (by omega)
      rw [if_pos c, if_pos c, wrap64_id (x := (lo + hi) / 2 * ((lo + hi) / 2)) (by omega) (by omega)]
      by_cases d : (lo + hi) / 2 * ((lo + hi) / 2) ≤ M
      · rw [if_pos d, if_pos d]
        exact Rsqrt_l0 n k M _ hi (by omega) (by omega) (by omega) (by omega) (by omega)
      · rw [if_neg d, if_neg d]
        exact Rsqrt_l0 n k M lo _ (by omega) (by omega) (by omega) (by omega) (by omega)
    · rw [if_neg c, if_neg c]
theorem Rsqrt_eq {k : Nat} (hk : 25 < k) (x : Int) : curve_Rsqrt.f k x = some (rsqrtI x) := by
  unfold curve_Rsqrt.f rsqrtI
  rw [Clamp_eq]; simp only [Option.bind_some]
  by_cases c : clampI x < 1
  · rw [if_pos c, if_pos c]
  · have hq := quo_range (x := clampI x) (by omega)
    rw [if_neg c, if_neg c, if_neg (by omega), Int.tdiv_eq_ediv_of_nonneg (by decide), wrap64_id (by omega) (by omega)]
    exact Rsqrt_l0 25 k _ 0 16777217 hk (by omega) (by omega) (by omega) (by decide +kernel)
theorem rRsqrt_step {k : Nat} {x r b : Int} (hx : 1 ≤ x) (hb : 0 < b) (h0 : 0 ≤ r) (h1 : r + b ≤ 33554432) : aviaryref03_Rsqrt.l0 (k + 1) x r b = if (r + b) * (r + b) ≤ 281474976710656 / x then aviaryref03_Rsqrt.l0 k x (r + b) (b / 2) else aviaryref03_Rsqrt.l0 k x r (b / 2) := by
  have hq := quo_range hx
  have e1 : wrap64 (Int.tdiv 281474976710656 x) = 281474976710656 / x := by rw [Int.tdiv_eq_ediv_of_nonneg (by decide)]; exact wrap64_id (by omega) (by omega)
  have hs : (r + b) * (r + b) ≤ 33554432 * 33554432 := sq_mono (by omega) (by omega)
  have hs0 : 0 ≤ (r + b) * (r + b) := Int.mul_nonneg (by omega) (by omega)
  have e2 : wrap64 (Int.tdiv b 2) = b / 2 := by rw [Int.tdiv_eq_ediv_of_nonneg (by omega)]; exact wrap64_id (by omega) (by omega)
  simp only [aviaryref03_Rsqrt.l0]
  rw [if_pos (by omega), if_neg (by omega), e1, e2, wrap64_id (x := r + b) (by omega) (by omega), wrap64_id (x := (r + b) * (r + b)) (by omega) (by omega)]
theorem rRsqrt_zero {k : Nat} {x r : Int} : aviaryref03_Rsqrt.l0 (k + 1) x r 0 = some r := by
  simp only [aviaryref03_Rsqrt.l0]
  rw [if_neg (by omega)]
theorem rRsqrt_l0 (x : Int) (hx : 1 ≤ x) (n : Nat) : ∀ (k : Nat) (r b : Int), b = 2 ^ n → n + 1 < k → 0 ≤ r → r + 2 * b ≤ 33554432 → r * r ≤ 281474976710656 / x → 281474976710656 / x < (r + 2 * b) * (r + 2 * b) → ∃ s, aviaryref03_Rsqrt.l0 k x r b = some s ∧ IsRoot (281474976710656 / x) s := by
  induction n with
  | zero =>
    intro k r b hb hk h0 h1 h2 h3
    obtain ⟨k, rfl⟩ : ∃ m, k = m + 2 := ⟨k - 2, by omega⟩
    have hb1 : b = 1 := hb
    subst hb1
    rw [rRsqrt_step hx (by omega) h0 (by omega)]
    have e : (1 : Int) / 2 = 0 := by decide
    rw [e]
    by_cases c : (r + 1) * (r + 1) ≤ 281474976710656 / x
    · rw [if_pos c, rRsqrt_zero]
      refine ⟨_, rfl, by omega, c, ?_⟩
      rw [show r + 1 + 1 = r + 2 * 1 by omega]; exact h3
    · rw [if_neg c, rRsqrt_zero]
      exact ⟨_, rfl, h0, h2, by omega⟩
  | succ n ih =>
    intro k r b hb hk h0 h1 h2 h3
    obtain ⟨k, rfl⟩ : ∃ m, k = m + 1 := ⟨k - 1, by omega⟩
    have hP := pow2_succ n
    have hp' := pow2_pos n
    obtain ⟨c, hc⟩ : ∃ c : Int, c = 2 ^ n := ⟨_, rfl⟩
    rw [← hc] at hP hp'
    have hbc : b = 2 * c := by rw [hb, hP]
    have hb2 : b / 2 = c := by omega
    rw [rRsqrt_step hx (by omega) h0 (by omega), hb2]
    by_cases d : (r + b) * (r + b) ≤ 281474976710656 / x
    · rw [if_pos d]
      refine ih k (r + b) c hc (by omega) (by omega) (by omega) d ?_
      rw [show r + b + 2 * c = r + 2 * b by omega]; exact h3
    · rw [if_neg d]
      refine ih k r c hc (by omega) h0 (by omega) h2 ?_
      rw [← hbc]; omega
theorem rRsqrt_eq {k : Nat} (hk : 25 < k) (x : Int) : aviaryref03_Rsqrt.f k x = some (rsqrtI x) := by
  unfold aviaryref03_Rsqrt.f
  rw [rClamp_eq]; simp only [Option.bind_some]
  by_cases c : clampI x < 1
  · rw [if_pos c]; unfold rsqrtI; rw [if_pos c]
  · have hq := quo_range (x := clampI x) (by omega)
    obtain ⟨s, hs, hr⟩ := rRsqrt_l0 (clampI x) (by omega) 24 k 0 16777216 (by decide +kernel) (by omega) (by omega) (by omega) (by omega) (by omega)
    rw [if_neg c, hs, hr.uniq (rsqrtI_root (x := x) (by omega))]
theorem CurvePowers : aviarylaw03_CurvePowers.Pure := by
  intro a ha
  refine ⟨30, ?_⟩
  unfold aviarylaw03_CurvePowers.f
  rw [Exp_eq, rExp_eq (by omega), Rsqrt_eq (by omega), rRsqrt_eq (by omega)]
  simp

end Go.Proofs.Ytfcchiocjefeeaa.Pure
