/- Sig, Silu, Cos and Sin of the program equal those of the reference, for any number of 64 bits and any turn. No condition. -/
import Derived.Test.YtfcchiocjefeeaaPCurveSigsx2
import Derived.Test.YtfcchiocjefeeaaMSat
import Derived.Test.YtfcchiocjefeeaaMCurve
set_option linter.unusedVariables false
set_option linter.unusedSimpArgs false
namespace Go.Proofs.Ytfcchiocjefeeaa.Pure
open Go Go.RowKit Go.Proofs.Ytfcchiocjefeeaa.PCurveSigs Go.Proofs.YtfcchiocjefeeaaW.PrintWords Go.Proofs.YtfcchiocjefeeaaW.PrintLast Go.Proofs.Ytfcchiocjefeeaa.Mth
theorem Clamp_eq (x : Int) : sat_Clamp.f x = some (clampI x) := by unfold sat_Clamp.f; rw [clamp_f1]
theorem rClamp_eq (x : Int) : aviaryref01_Clamp.f x = some (clampI x) := by unfold aviaryref01_Clamp.f; rw [clamp_f2]
theorem Shift_eq {x : Int} (hx : -9223372036854775808 ≤ x ∧ x ≤ 9223372036854775807) (n : Int) : sat_Shift.f x n = some (shiftI x n) := by
  unfold sat_Shift.f shiftI
  have hm : mx (mn n 62) 0 = (nclampI n : Int) := by unfold mx mn nclampI; (repeat' split) <;> omega
  have hm2 : nclampI n ≤ 62 := by unfold nclampI; split <;> omega
  rw [hm]
  generalize nclampI n = m at *
  cases m with
  | zero => rfl
  | succ m =>
    rw [if_neg (by omega), if_pos (by omega)]
    have e1 : ((m + 1 : Nat) : Int).toNat = m + 1 := by omega
    have e2 : (((m + 1 : Nat) : Int) - 1).toNat = m := by omega
    rw [e1, e2]
    have hp := pow2_pos m
    have hP := pow2_succ m
    have hl := pow2_le62 hm2
    rw [wrap64_id (x := 2 ^ (m + 1)) (by omega) (by omega), wrap64_id (x := 2 ^ (m + 1) - 1) (by omega) (by omega), wrap64_id (x := 2 ^ m) (by omega) (by omega), bits_mask64 x (m + 1) hm2]
    have hr := Int.emod_nonneg x (show (2 : Int) ^ (m + 1) ≠ 0 by omega)
    have hr2 := Int.emod_lt_of_pos x (pow2_pos (m + 1))
    have hq := Int.mul_ediv_add_emod x (2 ^ (m + 1))
    have hqb : -9223372036854775808 ≤ x / 2 ^ (m + 1) + 1 ∧ x / 2 ^ (m + 1) + 1 ≤ 9223372036854775807 := by
      have h1 : x / 2 ^ (m + 1) ≤ 4611686018427387904 := by
        have := Int.ediv_le_ediv (c := 2 ^ (m + 1)) (by omega) hx.2
        have h3 : 9223372036854775807 / (2 : Int) ^ (m + 1) ≤ 4611686018427387904 := by
          have := Int.ediv_lt_of_lt_mul (a := 9223372036854775807) (b := 4611686018427387905) (c := 2 ^ (m + 1)) (by omega) (by omega)
          omega
        omega
      have h2 : -9223372036854775808 ≤ x / 2 ^ (m + 1) := by
        refine Int.le_ediv_of_mul_le (by omega) ?_
        omega
      omega
    rw [wrap64_id hqb.1 hqb.2]
    have key := rdivI_floor x m
    by_cases c : x % 2 ^ (m + 1) > 2 ^ m
    · rw [if_pos c, key, if_pos (Or.inl c)]
    · rw [if_neg c]
      by_cases d : x % 2 ^ (m + 1) = 2 ^ m
      · rw [if_pos d]
        by_cases e : x > 0
        · rw [if_pos e, key, if_pos (Or.inr ⟨d, e⟩)]
        · rw [if_neg e, key, if_neg (by omega)]
      · rw [if_neg d, key, if_neg (by omega)]
theorem rShift_eq {k : Nat} (hk : 0 < k) {x : Int} (hx : -9223372036854775808 ≤ x ∧ x ≤ 9223372036854775807) (n : Int) : aviaryref01_Shift.f k x n = some (shiftI x n) := by
  obtain ⟨k, rfl⟩ : ∃ m, k = m + 1 := ⟨k - 1, by omega⟩
  unfold aviaryref01_Shift.f shiftI
  have hm : mn 62 (mx 0 n) = (nclampI n : Int) := by unfold mx mn nclampI; (repeat' split) <;> omega
  have hm2 : nclampI n ≤ 62 := by unfold nclampI; split <;> omega
  rw [hm]
  generalize nclampI n = m at *
  cases m with
  | zero => rfl
  | succ m =>
    have hp := pow2_pos m
    have hP := pow2_succ m
    have hl := pow2_le62 hm2
    have e1 : wrap64 (((m + 1 : Nat) : Int) - 1) = (m : Int) := by unfold wrap64; omega
    have e2 : ∀ y : Int, shr .u64 y ((m + 1 : Nat) : Int) = y / 2 ^ (m + 1) := fun y => by unfold shr; rw [show min (((m + 1 : Nat) : Int).toNat) IntKind.u64.bits = m + 1 by simp [IntKind.bits]; omega]
    have e3 : ∀ y : Int, shr .u64 y (m : Int) = y / 2 ^ m := fun y => by unfold shr; rw [show min ((m : Int).toNat) IntKind.u64.bits = m by simp [IntKind.bits]; omega]
    have key : ∀ y : Int, 0 ≤ y → y ≤ 9223372036854775808 → 0 ≤ y / 2 ^ (m + 1) ∧ y / 2 ^ (m + 1) ≤ 4611686018427387904 := by
      intro y h0 h1
      refine ⟨Int.ediv_nonneg h0 (by omega), ?_⟩
      have := Int.ediv_lt_of_lt_mul (a := y) (b := 4611686018427387905) (c := 2 ^ (m + 1)) (by omega) (by omega)
      omega
    rw [if_neg (by omega)]
    by_cases c : x < 0
    · have e4 : IntKind.u64.wrap (IntKind.u64.wrap (wrap64 (-wrap64 (x + 1))) + 1) = -x := by rw [wrapu64, wrapu64]; unfold wrap64; omega
      rw [if_pos c, e4]
      simp only [aviaryref01_Shift.j0]
      rw [if_pos (by omega), e1, if_pos (by omega), e2, e3, if_pos c, if_pos c, wrapu64]
      have hk := key (-x) (by omega) (by omega)
      have hr := rdivI_half (-x) m (by omega)
      have hh := Int.tmod_eq_emod_of_nonneg (a := -x / 2 ^ m) (b := 2) (Int.ediv_nonneg (by omega) (by omega))
      rw [hh]
      have hx2 : rdivI x (m + 1) = - rdivI (-x) (m + 1) := by rw [rdivI_neg]; omega
      rw [hx2, hr]
      by_cases d : -x / 2 ^ m % 2 = 1
      · rw [if_pos d, if_pos d]; congr 1; unfold wrap64; omega
      · rw [if_neg d, if_neg d]; congr 1; unfold wrap64; omega
    · have e4 : IntKind.u64.wrap x = x := by rw [wrapu64]; omega
      rw [if_neg c, e4]
      simp only [aviaryref01_Shift.j0]
      rw [if_pos (by omega), e1, if_pos (by omega), e2, e3, if_neg c, if_neg c, wrapu64]
      have hk := key x (by omega) (by omega)
      have hr := rdivI_half x m (by omega)
      have hh := Int.tmod_eq_emod_of_nonneg (a := x / 2 ^ m) (b := 2) (Int.ediv_nonneg (by omega) (by omega))
      rw [hh, hr]
      by_cases d : x / 2 ^ m % 2 = 1
      · rw [if_pos d, if_pos d]; congr 1; unfold wrap64; omega
      · rw [if_neg d, if_neg d]; congr 1; unfold wrap64; omega
theorem Mul_eq (a b : Int) : sat_Mul.f a b = some (mulI a b) := by
  unfold sat_Mul.f mulI
  have h := clamp_prod a b
  rw [Clamp_eq, Clamp_eq]; simp only [Option.bind_some]
  rw [wrap64_id (by omega) (by omega), Shift_eq ⟨by omega, by omega⟩]; simp only [Option.bind_some]
  rw [Clamp_eq]; rfl
theorem rMul_eq {k : Nat} (hk : 0 < k) (a b : Int) : aviaryref01_Mul.f k a b = some (mulI a b) := by
  unfold aviaryref01_Mul.f mulI
  have h := clamp_prod a b
  rw [rClamp_eq, rClamp_eq]; simp only [Option.bind_some]
  rw [wrap64_id (by omega) (by omega), rShift_eq hk ⟨by omega, by omega⟩]; simp only [Option.bind_some]
  rw [rClamp_eq]; rfl
theorem Div_eq (a b : Int) : sat_Div.f a b = some (divI a b) := by
  unfold sat_Div.f divI
  have ha := clampI_range a
  have hb := clampI_range b
  rw [Clamp_eq, Clamp_eq]; simp only [Option.bind_some]
  by_cases c : clampI b = 0
  · rw [if_pos c, if_pos c]; (repeat' split) <;> rfl
  · rw [if_neg c, if_neg c]
    have h := tdiv_range (a := clampI a * 65536) (b := clampI b) (B := 140737488355328) (by omega) (by omega)
    rw [wrap64_id (x := clampI a * 65536) (by omega) (by omega), wrap64_id (by omega) (by omega), Clamp_eq]; rfl
theorem rDiv_eq (a b : Int) : aviaryref01_Div.f a b = some (divI a b) := by
  unfold aviaryref01_Div.f divI
  have ha := clampI_range a
  have hb := clampI_range b
  rw [rClamp_eq, rClamp_eq]; simp only [Option.bind_some]
  by_cases c : clampI b = 0
  · rw [if_pos c, if_pos c]; (repeat' split) <;> rfl
  · rw [if_neg c, if_neg c]
    have h := tdiv_range (a := clampI a * 65536) (b := clampI b) (B := 140737488355328) (by omega) (by omega)
    rw [wrap64_id (x := clampI a * 65536) (by omega) (by omega), wrap64_id (by omega) (by omega), rClamp_eq]; rfl

theorem powers_eq {i : Int} (h0 : 0 ≤ i) (h1 : i < 17) : curve_powers.f i = some (rd powT i) := by
  unfold curve_powers.f; rw [if_pos h0, if_pos h1]; rfl
theorem Exp_eq (x : Int) : curve_Exp.f x = some (expI x) := by
  unfold curve_Exp.f
  have hm : mn x 0 = if 0 < x then 0 else x := rfl
  have ht := exptI_range x
  have e1 : mulI (if 0 < x then 0 else x) 94548 = - exptI x := by unfold exptI; omega
  rw [hm, Mul_eq, e1]; simp only [Option.bind_some]
  unfold expI
  generalize exptI x = t at *
  have e2 : wrap64 (-(-t)) = t := by rw [Int.neg_neg]; exact wrap64_id (by omega) (by omega)
  have e3 : Go.bits .and .i64 t 65535 = t % 65536 := bits_mask64 t 16 (by decide)
  have e4 : Go.bits .and .i64 (t % 65536) 4095 = t % 65536 % 4096 := bits_mask64 (t % 65536) 12 (by decide)
  rw [e2, e3, e4]
  unfold expTI
  by_cases c : t / 65536 > 16
  · rw [if_pos c, if_pos c]
  · rw [if_neg c, if_neg c]
    have hf : 0 ≤ t % 65536 ∧ t % 65536 < 65536 := by omega
    rw [wrap64_id (x := t % 65536 / 4096 + 1) (by omega) (by omega), powers_eq (by omega) (by omega), powers_eq (by omega) (by omega)]
    simp only [Option.bind_some]
    rw [if_pos (by omega)]
    have hp := pow_at hf.1 hf.2
    have hv := powv_bound hf.1 hf.2
    unfold powv at hv ⊢
    generalize rd powT (t % 65536 / 4096) = a at *
    generalize rd powT (t % 65536 / 4096 + 1) = b at *
    have hg : 0 ≤ t % 65536 % 4096 ∧ t % 65536 % 4096 ≤ 4096 := by omega
    have h2 : 0 ≤ (a - b) * (t % 65536 % 4096) := Int.mul_nonneg (by omega) hg.1
    have h3 : (a - b) * (t % 65536 % 4096) ≤ (a - b) * 4096 := Int.mul_le_mul_of_nonneg_left hg.2 (by omega)
    rw [wrap64_id (x := a - b) (by omega) (by omega)]
    generalize (a - b) * (t % 65536 % 4096) = p at *
    rw [wrap64_id (x := p) (by omega) (by omega), wrap64_id (x := a - p / 4096) (by omega) (by omega)]
    unfold shr
    rw [show min ((t / 65536).toNat) IntKind.i64.bits = (t / 65536).toNat by simp [IntKind.bits]; omega]
theorem rExp_eq {k : Nat} (hk : 0 < k) (x : Int) : aviaryref03_Exp.f k x = some (expI x) := by
  unfold aviaryref03_Exp.f
  have hm : mn 0 x = if 0 < x then 0 else x := by unfold mn; (repeat' split) <;> omega
  have ht := exptI_range x
  have e1 : mulI (if 0 < x then 0 else x) 94548 = - exptI x := by unfold exptI; omega
  simp only [Option.bind_some]
  rw [hm, rMul_eq hk, e1]; simp only [Option.bind_some]
  unfold expI
  generalize exptI x = t at *
  have e2 : wrap64 (-(-t)) = t := by rw [Int.neg_neg]; exact wrap64_id (by omega) (by omega)
  have e3 : Int.tmod t 65536 = t % 65536 := Int.tmod_eq_emod_of_nonneg (by omega)
  have e4 : Int.tmod (t % 65536) 4096 = t % 65536 % 4096 := Int.tmod_eq_emod_of_nonneg (by omega)
  have e5 : wrap64 (Int.tdiv (t % 65536) 4096) = t % 65536 / 4096 := by rw [Int.tdiv_eq_ediv_of_nonneg (by omega)]; exact wrap64_id (by omega) (by omega)
  have e6 : wrap64 (Int.tdiv t 65536) = t / 65536 := by rw [Int.tdiv_eq_ediv_of_nonneg (by omega)]; exact wrap64_id (by omega) (by omega)
  have e7 : wrap64 (t % 65536 / 4096 + 1) = t % 65536 / 4096 + 1 := wrap64_id (by omega) (by omega)
  have hl : (([65536, 62757, 60097, 57549, 55109, 52773, 50535, 48393, 46341, 44376, 42495, 40693, 38968, 37316, 35734, 34219, 32768] : List Int).length : Int) = 17 := rfl
  rw [e2, e3, e4, e5, e6, e7, hl, if_pos (by omega), if_pos (by omega), if_pos (by omega), if_pos (by omega)]
  unfold expTI
  by_cases c : t / 65536 > 16
  · rw [if_pos c, if_pos c]
  · rw [if_neg c, if_neg c]
    have hf : 0 ≤ t % 65536 ∧ t % 65536 < 65536 := by omega
    rw [if_pos (by omega)]
    have hp := pow_at hf.1 hf.2
    have hv := powv_bound hf.1 hf.2
    unfold powv at hv ⊢
    unfold powT at hp hv ⊢
    generalize rd _ (t % 65536 / 4096) = a at *
    generalize rd _ (t % 65536 / 4096 + 1) = b at *
    have hg : 0 ≤ t % 65536 % 4096 ∧ t % 65536 % 4096 ≤ 4096 := by omega
    have h2 : 0 ≤ (a - b) * (t % 65536 % 4096) := Int.mul_nonneg (by omega) hg.1
    have h3 : (a - b) * (t % 65536 % 4096) ≤ (a - b) * 4096 := Int.mul_le_mul_of_nonneg_left hg.2 (by omega)
    rw [wrap64_id (x := a - b) (by omega) (by omega)]
    generalize (a - b) * (t % 65536 % 4096) = p at *
    have e8 : wrap64 (Int.tdiv p 4096) = p / 4096 := by rw [Int.tdiv_eq_ediv_of_nonneg (by omega)]; exact wrap64_id (by omega) (by omega)
    rw [wrap64_id (x := p) (by omega) (by omega), e8, wrap64_id (x := a - p / 4096) (by omega) (by omega)]
    unfold shr
    rw [show min ((t / 65536).toNat) IntKind.i64.bits = (t / 65536).toNat by simp [IntKind.bits]; omega]
theorem Sig_eq {k : Nat} (hk : 1 < k) (x : Int) : curve_Sig.f k x = some (sigI x) := by
  obtain ⟨k, rfl⟩ : ∃ m, k = m + 2 := ⟨k - 2, by omega⟩
  have hc := clampI_range x
  have pos : ∀ (j : Nat) (y : Int), 0 ≤ clampI y → curve_Sig.f (j + 1) y = some (sigPI (clampI y)) := by
    intro j y hy
    have hyr := clampI_range y
    have he := expI_range (-(clampI y))
    simp only [curve_Sig.f]
    rw [Clamp_eq]; simp only [Option.bind_some]
    rw [if_neg (by omega), wrap64_id (x := -(clampI y)) (by omega) (by omega), Exp_eq]; simp only [Option.bind_some]
    rw [wrap64_id (by omega) (by omega), Div_eq]
    rfl
  unfold sigI
  by_cases c : clampI x < 0
  · rw [if_pos c]
    have hs := sigPI_eq (clampI (-(clampI x)))
    have hn : 0 ≤ clampI (-(clampI x)) := by have := clampI_mono (show 0 ≤ -(clampI x) by omega); have e : clampI 0 = 0 := by decide
                                             omega
    simp only [curve_Sig.f]
    rw [Clamp_eq]; simp only [Option.bind_some]
    rw [if_pos c, wrap64_id (x := -(clampI x)) (by omega) (by omega)]
    have h2 := pos k (-(clampI x)) hn
    simp only [curve_Sig.f] at h2
    rw [h2]; simp only [Option.bind_some]
    rw [wrap64_id (by omega) (by omega)]
  · rw [if_neg c]
    exact pos (k + 1) x (by omega)
theorem rSig_eq {k : Nat} (hk : 2 < k) (x : Int) : aviaryref03_Sig.f k x = some (sigI x) := by
  obtain ⟨k, rfl⟩ : ∃ m, k = m + 3 := ⟨k - 3, by omega⟩
  have hc := clampI_range x
  have pos : ∀ (j : Nat) (y : Int), 0 ≤ clampI y → aviaryref03_Sig.f (j + 2) y = some (sigPI (clampI y)) := by
    intro j y hy
    have hyr := clampI_range y
    have he := expI_range (-(clampI y))
    simp only [aviaryref03_Sig.f]
    rw [rClamp_eq]; simp only [Option.bind_some]
    rw [if_neg (by omega), wrap64_id (x := -(clampI y)) (by omega) (by omega), rExp_eq (by omega)]; simp only [Option.bind_some]
    rw [wrap64_id (by omega) (by omega), rDiv_eq]
    rfl
  unfold sigI
  by_cases c : clampI x < 0
  · rw [if_pos c]
    have hs := sigPI_eq (clampI (-(clampI x)))
    have hn : 0 ≤ clampI (-(clampI x)) := by have := clampI_mono (show 0 ≤ -(clampI x) by omega); have e : clampI 0 = 0 := by decide
                                             omega
    have h2 := pos k (-(clampI x)) hn
    rw [show k + 3 = (k + 2) + 1 from rfl]
    generalize k + 2 = j at *
    simp only [aviaryref03_Sig.f]
    rw [rClamp_eq]; simp only [Option.bind_some]
    rw [if_pos c, wrap64_id (x := -(clampI x)) (by omega) (by omega), h2]; simp only [Option.bind_some]
    rw [wrap64_id (by omega) (by omega)]
  · rw [if_neg c]
    exact pos (k + 1) x (by omega)
theorem Silu_eq {k : Nat} (hk : 1 < k) (x : Int) : curve_Silu.f k x = some (siluI x) := by
  unfold curve_Silu.f siluI; rw [Sig_eq hk]; simp only [Option.bind_some]; rw [Mul_eq]; rfl
theorem rSilu_eq {k : Nat} (hk : 2 < k) (x : Int) : aviaryref03_Silu.f k x = some (siluI x) := by
  unfold aviaryref03_Silu.f siluI; rw [rSig_eq hk]; simp only [Option.bind_some]; rw [rMul_eq (by omega)]; rfl
theorem Cos_eq {k : Nat} (hk : 1 < k) (n : Int) : curve_Cos.f k n = some (cosI n) := by
  obtain ⟨k, rfl⟩ : ∃ m, k = m + 2 := ⟨k - 2, by omega⟩
  have lo : ∀ (j : Nat) (m : Int), 0 ≤ m % 16 → m % 16 ≤ 8 → curve_Cos.f (j + 1) m = some (cosI m) := by
    intro j m h0 h1
    simp only [curve_Cos.f]
    rw [bits15]
    unfold cosI
    generalize m % 16 = i at *
    obtain rfl | rfl | rfl | rfl | rfl | rfl | rfl | rfl | rfl : i = 0 ∨ i = 1 ∨ i = 2 ∨ i = 3 ∨ i = 4 ∨ i = 5 ∨ i = 6 ∨ i = 7 ∨ i = 8 := by omega
    all_goals first | rfl | (rw [if_neg (by decide), if_pos (by decide)]; decide +kernel)
  by_cases c : n % 16 ≤ 8
  · exact lo (k + 1) n (by omega) c
  · rw [show k + 2 = (k + 1) + 1 from rfl]
    have h2 := lo k (16 - n % 16) (by omega) (by omega)
    generalize k + 1 = j at *
    simp only [curve_Cos.f]
    rw [bits15, if_neg (by omega), if_neg (by omega), wrap64_id (by omega) (by omega), h2]
    simp only [Option.bind_some]
    have hb : n % 16 < 16 := by omega
    unfold cosI
    generalize n % 16 = i at *
    obtain rfl | rfl | rfl | rfl | rfl | rfl | rfl : i = 9 ∨ i = 10 ∨ i = 11 ∨ i = 12 ∨ i = 13 ∨ i = 14 ∨ i = 15 := by omega
    all_goals first | rfl | decide +kernel
theorem Sin_eq {k : Nat} (hk : 1 < k) (n : Int) : curve_Sin.f k n = some (sinI n) := by
  unfold curve_Sin.f
  rw [bits15, wrap64_id (by omega) (by omega), Cos_eq hk]; simp only [Option.bind_some]
  unfold cosI sinI
  obtain h | h | h | h | h | h | h | h | h | h | h | h | h | h | h | h : n % 16 = 0 ∨ n % 16 = 1 ∨ n % 16 = 2 ∨ n % 16 = 3 ∨ n % 16 = 4 ∨ n % 16 = 5 ∨ n % 16 = 6 ∨ n % 16 = 7 ∨ n % 16 = 8 ∨ n % 16 = 9 ∨ n % 16 = 10 ∨ n % 16 = 11 ∨ n % 16 = 12 ∨ n % 16 = 13 ∨ n % 16 = 14 ∨ n % 16 = 15 := by omega
  all_goals (have e : (n % 16 - 4) % 16 = (n % 16 + 12) % 16 := by omega
             rw [e, h]; first | rfl | decide +kernel)
theorem sixteenth_eq {n : Int} (h : -9223372036854775808 ≤ n ∧ n ≤ 9223372036854775807) : aviaryref03_sixteenth.f n = some (n % 16) := by
  unfold aviaryref03_sixteenth.f
  have e := Int.tmod_eq_emod (a := n) (b := 16)
  have e2 : wrap64 (Int.tmod n 16 + 16) = Int.tmod n 16 + 16 := by
    rw [e]; split <;> exact wrap64_id (by omega) (by omega)
  rw [e2, Int.tmod_eq_emod_of_nonneg (a := Int.tmod n 16 + 16) (by rw [e]; split <;> omega), e]
  congr 1
  split <;> omega
theorem rCos_eq {n : Int} (h : -9223372036854775808 ≤ n ∧ n ≤ 9223372036854775807) : aviaryref03_Cos.f n = some (cosI n) := by
  unfold aviaryref03_Cos.f
  simp only [Option.bind_some]
  rw [sixteenth_eq h]; simp only [Option.bind_some]
  rw [if_pos (by omega), if_pos (by simp; omega)]
  rfl
theorem rSin_eq {n : Int} (h : -9223372036854775808 ≤ n ∧ n ≤ 9223372036854775807) : aviaryref03_Sin.f n = some (sinI n) := by
  unfold aviaryref03_Sin.f
  simp only [Option.bind_some]
  rw [sixteenth_eq h]; simp only [Option.bind_some]
  rw [if_pos (by omega), if_pos (by simp; omega)]
  rfl

theorem CurveSigs : aviarylaw03_CurveSigs.Pure := by
  intro a n ha hn
  refine ⟨30, ?_⟩
  unfold aviarylaw03_CurveSigs.f
  rw [Sig_eq (by omega), rSig_eq (by omega), Silu_eq (by omega), rSilu_eq (by omega), Cos_eq (by omega), rCos_eq (wf64 hn), Sin_eq (by omega), rSin_eq (wf64 hn)]
  simp

end Go.Proofs.Ytfcchiocjefeeaa.Pure
