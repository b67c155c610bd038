/- Rms of the program equals that of the reference: for any row and any weights. No condition. -/
import Derived.Test.YtembeccopodjmaaPNormSizesx4
import Derived.Test.YtembeccopodjmaaMSat
import Derived.Test.YtembeccopodjmaaMCurve
import Derived.Test.YtembeccopodjmaaMVec
import Derived.Test.YtembeccopodjmaaMNorm
set_option linter.unusedVariables false
set_option linter.unusedSimpArgs false
namespace Go.Proofs.Ytembeccopodjmaa.Pure
open Go Go.RowKit Go.Proofs.Ytembeccopodjmaa.PNormSizes Go.Proofs.YtembeccopodjmaaW.PrintWords Go.Proofs.YtembeccopodjmaaW.PrintLast Go.Proofs.Ytembeccopodjmaa.Mth
theorem Clamp_eq (x : Int) : sat_Clamp.f x = some (clampI x) := by unfold sat_Clamp.f; rw [clamp_f1]
theorem rClamp_eq (x : Int) : aviaryref01_Clamp.f x = some (clampI x) := by unfold aviaryref01_Clamp.f; rw [clamp_f2]
theorem Add_eq {a b : Int} (ha : -9223372036854775808 ≤ a ∧ a ≤ 9223372036854775807) (hb : -9223372036854775808 ≤ b ∧ b ≤ 9223372036854775807) : sat_Add.f a b = some (saddI a b) := by
  unfold sat_Add.f
  have h := sadd_sign ha.1 ha.2 hb.1 hb.2
  by_cases c : (Go.bits .and .i64 (Go.bits .xor .i64 a (wrap64 (a + b))) (Go.bits .xor .i64 b (wrap64 (a + b)))) ≥ 0
  · rw [if_pos c]
    have h2 := h.1 c
    clear h c
    unfold wrap64 at *
    unfold saddI
    congr 1
    (repeat' split) <;> omega
  · rw [if_neg c]
    have h2 : ¬ ¬ _ := fun z => c (h.2 z)
    have h3 := Classical.not_not.1 h2
    clear h c h2
    unfold wrap64 at *
    unfold saddI
    (repeat' split) <;> first | rfl | omega
theorem rAdd_eq {k : Nat} (hk : 0 < k) {a b : Int} (ha : -9223372036854775808 ≤ a ∧ a ≤ 9223372036854775807) (hb : -9223372036854775808 ≤ b ∧ b ≤ 9223372036854775807) : aviaryref01_Add.f k a b = some (saddI a b) := by
  obtain ⟨k, rfl⟩ : ∃ m, k = m + 1 := ⟨k - 1, by omega⟩
  unfold aviaryref01_Add.f
  by_cases c : b > 0
  · rw [if_pos c, wrap64_id (x := 9223372036854775807 - b) (by omega) (by omega)]
    simp only [aviaryref01_Add.j0]
    by_cases d : a > 9223372036854775807 - b
    · rw [if_pos (by simpa using d)]
      unfold saddI; rw [if_pos (by omega)]
    · rw [if_neg (by simpa using d), if_neg (by omega), wrap64_id (by omega) (by omega)]
      unfold saddI; rw [if_neg (by omega), if_neg (by omega)]
  · rw [if_neg c]
    simp only [aviaryref01_Add.j0]
    rw [if_neg (by decide)]
    by_cases d : b < 0
    · rw [if_pos d, wrap64_id (x := -9223372036854775808 - b) (by omega) (by omega)]
      by_cases e : a < -9223372036854775808 - b
      · rw [if_pos e]; unfold saddI; rw [if_neg (by omega), if_pos (by omega)]
      · rw [if_neg e, wrap64_id (by omega) (by omega)]; unfold saddI; rw [if_neg (by omega), if_neg (by omega)]
    · rw [if_neg d, wrap64_id (by omega) (by omega)]; unfold saddI; rw [if_neg (by omega), if_neg (by omega)]
theorem Shift_eq {x : Int} (hx : -9223372036854775808 ≤ x ∧ x ≤ 9223372036854775807) (n : Int) : sat_Shift.f x n = some (shiftI x n) := by
  unfold sat_Shift.f shiftI
  have hm : mx (mn n 62) 0 = (nclampI n : Int) := by unfold mx mn nclampI; (repeat' split) <;> omega
  have hm2 : nclampI n ≤ 62 := by unfold nclampI; split <;> omega
  rw [hm]
  generalize nclampI n = m at *
  cases m with
  | zero => rfl
  | succ m =>
    rw [if_neg (by omega), if_pos (by omega)]
    have e1 : ((m + 1 : Nat) : Int).toNat = m + 1 := by omega
    have e2 : (((m + 1 : Nat) : Int) - 1).toNat = m := by omega
    rw [e1, e2]
    have hp := pow2_pos m
    have hP := pow2_succ m
    have hl := pow2_le62 hm2
    rw [wrap64_id (x := 2 ^ (m + 1)) (by omega) (by omega), wrap64_id (x := 2 ^ (m + 1) - 1) (by omega) (by omega), wrap64_id (x := 2 ^ m) (by omega) (by omega), bits_mask64 x (m + 1) hm2]
    have hr := Int.emod_nonneg x (show (2 : Int) ^ (m + 1) ≠ 0 by omega)
    have hr2 := Int.emod_lt_of_pos x (pow2_pos (m + 1))
    have hq := Int.mul_ediv_add_emod x (2 ^ (m + 1))
    have hqb : -9223372036854775808 ≤ x / 2 ^ (m + 1) + 1 ∧ x / 2 ^ (m + 1) + 1 ≤ 9223372036854775807 := by
      have h1 : x / 2 ^ (m + 1) ≤ 4611686018427387904 := by
        have := Int.ediv_le_ediv (c := 2 ^ (m + 1)) (by omega) hx.2
        have h3 : 9223372036854775807 / (2 : Int) ^ (m + 1) ≤ 4611686018427387904 := by
          have := Int.ediv_lt_of_lt_mul (a := 9223372036854775807) (b := 4611686018427387905) (c := 2 ^ (m + 1)) (by omega) (by omega)
          omega
        omega
      have h2 : -9223372036854775808 ≤ x / 2 ^ (m + 1) := by
        refine Int.le_ediv_of_mul_le (by omega) ?_
        omega
      omega
    rw [wrap64_id hqb.1 hqb.2]
    have key := rdivI_floor x m
    by_cases c : x % 2 ^ (m + 1) > 2 ^ m
    · rw [if_pos c, key, if_pos (Or.inl c)]
    · rw [if_neg c]
      by_cases d : x % 2 ^ (m + 1) = 2 ^ m
      · rw [if_pos d]
        by_cases e : x > 0
        · rw [if_pos e, key, if_pos (Or.inr ⟨d, e⟩)]
        · rw [if_neg e, key, if_neg (by omega)]
      · rw [if_neg d, key, if_neg (by omega)]
theorem rShift_eq {k : Nat} (hk : 0 < k) {x : Int} (hx : -9223372036854775808 ≤ x ∧ x ≤ 9223372036854775807) (n : Int) : aviaryref01_Shift.f k x n = some (shiftI x n) := by
  obtain ⟨k, rfl⟩ : ∃ m, k = m + 1 := ⟨k - 1, by omega⟩
  unfold aviaryref01_Shift.f shiftI
  have hm : mn 62 (mx 0 n) = (nclampI n : Int) := by unfold mx mn nclampI; (repeat' split) <;> omega
  have hm2 : nclampI n ≤ 62 := by unfold nclampI; split <;> omega
  rw [hm]
  generalize nclampI n = m at *
  cases m with
  | zero => rfl
  | succ m =>
    have hp := pow2_pos m
    have hP := pow2_succ m
    have hl := pow2_le62 hm2
    have e1 : wrap64 (((m + 1 : Nat) : Int) - 1) = (m : Int) := by unfold wrap64; omega
    have e2 : ∀ y : Int, shr .u64 y ((m + 1 : Nat) : Int) = y / 2 ^ (m + 1) := fun y => by unfold shr; rw [show min (((m + 1 : Nat) : Int).toNat) IntKind.u64.bits = m + 1 by simp [IntKind.bits]; omega]
    have e3 : ∀ y : Int, shr .u64 y (m : Int) = y / 2 ^ m := fun y => by unfold shr; rw [show min ((m : Int).toNat) IntKind.u64.bits = m by simp [IntKind.bits]; omega]
    have key : ∀ y : Int, 0 ≤ y → y ≤ 9223372036854775808 → 0 ≤ y / 2 ^ (m + 1) ∧ y / 2 ^ (m + 1) ≤ 4611686018427387904 := by
      intro y h0 h1
      refine ⟨Int.ediv_nonneg h0 (by omega), ?_⟩
      have := Int.ediv_lt_of_lt_mul (a := y) (b := 4611686018427387905) (c := 2 ^ (m + 1)) (by omega) (by omega)
      omega
    rw [if_neg (by omega)]
    by_cases c : x < 0
    · have e4 : IntKind.u64.wrap (IntKind.u64.wrap (wrap64 (-wrap64 (x + 1))) + 1) = -x := by rw [wrapu64, wrapu64]; unfold wrap64; omega
      rw [if_pos c, e4]
      simp only [aviaryref01_Shift.j0]
      rw [if_pos (by omega), e1, if_pos (by omega), e2, e3, if_pos c, if_pos c, wrapu64]
      have hk := key (-x) (by omega) (by omega)
      have hr := rdivI_half (-x) m (by omega)
      have hh := Int.tmod_eq_emod_of_nonneg (a := -x / 2 ^ m) (b := 2) (Int.ediv_nonneg (by omega) (by omega))
      rw [hh]
      have hx2 : rdivI x (m + 1) = - rdivI (-x) (m + 1) := by rw [rdivI_neg]; omega
      rw [hx2, hr]
      by_cases d : -x / 2 ^ m % 2 = 1
      · rw [if_pos d, if_pos d]; congr 1; unfold wrap64; omega
      · rw [if_neg d, if_neg d]; congr 1; unfold wrap64; omega
    · have e4 : IntKind.u64.wrap x = x := by rw [wrapu64]; omega
      rw [if_neg c, e4]
      simp only [aviaryref01_Shift.j0]
      rw [if_pos (by omega), e1, if_pos (by omega), e2, e3, if_neg c, if_neg c, wrapu64]
      have hk := key x (by omega) (by omega)
      have hr := rdivI_half x m (by omega)
      have hh := Int.tmod_eq_emod_of_nonneg (a := x / 2 ^ m) (b := 2) (Int.ediv_nonneg (by omega) (by omega))
      rw [hh, hr]
      by_cases d : x / 2 ^ m % 2 = 1
      · rw [if_pos d, if_pos d]; congr 1; unfold wrap64; omega
      · rw [if_neg d, if_neg d]; congr 1; unfold wrap64; omega
theorem Mul_eq (a b : Int) : sat_Mul.f a b = some (mulI a b) := by
  unfold sat_Mul.f mulI
  have h := clamp_prod a b
  rw [Clamp_eq, Clamp_eq]; simp only [Option.bind_some]
  rw [wrap64_id (by omega) (by omega), Shift_eq ⟨by omega, by omega⟩]; simp only [Option.bind_some]
  rw [Clamp_eq]; rfl
theorem rMul_eq {k : Nat} (hk : 0 < k) (a b : Int) : aviaryref01_Mul.f k a b = some (mulI a b) := by
  unfold aviaryref01_Mul.f mulI
  have h := clamp_prod a b
  rw [rClamp_eq, rClamp_eq]; simp only [Option.bind_some]
  rw [wrap64_id (by omega) (by omega), rShift_eq hk ⟨by omega, by omega⟩]; simp only [Option.bind_some]
  rw [rClamp_eq]; rfl
theorem Rsqrt_l0 : ∀ (n k : Nat) (M lo hi : Int), n < k → 0 ≤ lo → lo < hi → hi ≤ 16777217 → hi - lo ≤ 2 ^ n → curve_Rsqrt.l0 k M lo hi = some (bsI n M lo hi)
  | n, 0, M, lo, hi, hk, h0, h1, h2, h3 => by omega
  | 0, k + 1, M, lo, hi, hk, h0, h1, h2, h3 => by
    have : hi = lo + 1 := by simp at h3; omega
    subst this
    simp only [curve_Rsqrt.l0]
    rw [wrap64_id (by omega) (by omega), if_neg (by omega)]
    rfl
  | n + 1, k + 1, M, lo, hi, hk, h0, h1, h2, h3 => by
    have hP := pow2_succ n
    simp only [curve_Rsqrt.l0]
    unfold bsI
    have e1 : wrap64 (Int.tdiv (wrap64 (lo + hi)) 2) = (lo + hi) / 2 := by
      rw [wrap64_id (x := lo + hi) (by omega) (by omega), Int.tdiv_eq_ediv_of_nonneg (by omega)]
      exact wrap64_id (by omega) (by omega)
    rw [wrap64_id (x := hi - lo) (by omega) (by omega), e1]
    by_cases c : hi - lo > 1
    · have hs : (lo + hi) / 2 * ((lo + hi) / 2) ≤ 16777217 * 16777217 := sq_mono (by omega) (by omega)
      have hs0 : 0 ≤ (lo + hi) / 2 * ((lo + hi) / 2) := Int.mul_nonneg (by omega) (by omega)
      rw [if_pos c, if_pos c, wrap64_id (x := (lo + hi) / 2 * ((lo + hi) / 2)) (by omega) (by omega)]
      by_cases d : (lo + hi) / 2 * ((lo + hi) / 2) ≤ M
      · rw [if_pos d, if_pos d]
        exact Rsqrt_l0 n k M _ hi (by omega) (by omega) (by omega) (by omega) (by omega)
      · rw [if_neg d, if_neg d]
        exact Rsqrt_l0 n k M lo _ (by omega) (by omega) (by omega) (by omega) (by omega)
    · rw [if_neg c, if_neg c]
theorem Rsqrt_eq {k : Nat} (hk : 25 < k) (x : Int) : curve_Rsqrt.f k x = some (rsqrtI x) := by
  unfold curve_Rsqrt.f rsqrtI
  rw [Clamp_eq]; simp only [Option.bind_some]
  by_cases c : clampI x < 1
  · rw [if_pos c, if_pos c]
  · have hq := quo_range (x := clampI x) (by omega)
    rw [if_neg c, if_neg c, if_neg (by omega), Int.tdiv_eq_ediv_of_nonneg (by decide), wrap64_id (by omega) (by omega)]
    exact Rsqrt_l0 25 k _ 0 16777217 hk (by omega) (by omega) (by omega) (by decide +kernel)
theorem rRsqrt_step {k : Nat} {x r b : Int} (hx : 1 ≤ x) (hb : 0 < b) (h0 : 0 ≤ r) (h1 : r + b ≤ 33554432) : aviaryref03_Rsqrt.l0 (k + 1) x r b = if (r + b) * (r + b) ≤ 281474976710656 / x then aviaryref03_Rsqrt.l0 k x (r + b) (b / 2) else aviaryref03_Rsqrt.l0 k x r (b / 2) := by
  have hq := quo_range hx
  have e1 : wrap64 (Int.tdiv 281474976710656 x) = 281474976710656 / x := by rw [Int.tdiv_eq_ediv_of_nonneg (by decide)]; exact wrap64_id (by omega) (by omega)
  have hs : (r + b) * (r + b) ≤ 33554432 * 33554432 := sq_mono (by omega) (by omega)
  have hs0 : 0 ≤ (r + b) * (r + b) := Int.mul_nonneg (by omega) (by omega)
  have e2 : wrap64 (Int.tdiv b 2) = b / 2 := by rw [Int.tdiv_eq_ediv_of_nonneg (by omega)]; exact wrap64_id (by omega) (by omega)
  simp only [aviaryref03_Rsqrt.l0]
  rw [if_pos (by omega), if_neg (by omega), e1, e2, wrap64_id (x := r + b) (by omega) (by omega), wrap64_id (x := (r + b) * (r + b)) (by omega) (by omega)]
theorem rRsqrt_zero {k : Nat} {x r : Int} : aviaryref03_Rsqrt.l0 (k + 1) x r 0 = some r := by
  simp only [aviaryref03_Rsqrt.l0]
  rw [if_neg (by omega)]
theorem rRsqrt_l0 (x : Int) (hx : 1 ≤ x) (n : Nat) : ∀ (k : Nat) (r b : Int), b = 2 ^ n → n + 1 < k → 0 ≤ r → r + 2 * b ≤ 33554432 → r * r ≤ 281474976710656 / x → 281474976710656 / x < (r + 2 * b) * (r + 2 * b) → ∃ s, aviaryref03_Rsqrt.l0 k x r b = some s ∧ IsRoot (281474976710656 / x) s := by
  induction n with
  | zero =>
    intro k r b hb hk h0 h1 h2 h3
    obtain ⟨k, rfl⟩ : ∃ m, k = m + 2 := ⟨k - 2, by omega⟩
    have hb1 : b = 1 := hb
    subst hb1
    rw [rRsqrt_step hx (by omega) h0 (by omega)]
    have e : (1 : Int) / 2 = 0 := by decide
    rw [e]
    by_cases c : (r + 1) * (r + 1) ≤ 281474976710656 / x
    · rw [if_pos c, rRsqrt_zero]
      refine ⟨_, rfl, by omega, c, ?_⟩
      rw [show r + 1 + 1 = r + 2 * 1 by omega]; exact h3
    · rw [if_neg c, rRsqrt_zero]
      exact ⟨_, rfl, h0, h2, by omega⟩
  | succ n ih =>
    intro k r b hb hk h0 h1 h2 h3
    obtain ⟨k, rfl⟩ : ∃ m, k = m + 1 := ⟨k - 1, by omega⟩
    have hP := pow2_succ n
    have hp' := pow2_pos n
    obtain ⟨c, hc⟩ : ∃ c : Int, c = 2 ^ n := ⟨_, rfl⟩
    rw [← hc] at hP hp'
    have hbc : b = 2 * c := by rw [hb, hP]
    have hb2 : b / 2 = c := by omega
    rw [rRsqrt_step hx (by omega) h0 (by omega), hb2]
    by_cases d : (r + b) * (r + b) ≤ 281474976710656 / x
    · rw [if_pos d]
      refine ih k (r + b) c hc (by omega) (by omega) (by omega) d ?_
      rw [show r + b + 2 * c = r + 2 * b by omega]; exact h3
    · rw [if_neg d]
      refine ih k r c hc (by omega) h0 (by omega) h2 ?_
      rw [← hbc]; omega
theorem rRsqrt_eq {k : Nat} (hk : 25 < k) (x : Int) : aviaryref03_Rsqrt.f k x = some (rsqrtI x) := by
  unfold aviaryref03_Rsqrt.f
  rw [rClamp_eq]; simp only [Option.bind_some]
  by_cases c : clampI x < 1
  · rw [if_pos c]; unfold rsqrtI; rw [if_pos c]
  · have hq := quo_range (x := clampI x) (by omega)
    obtain ⟨s, hs, hr⟩ := rRsqrt_l0 (clampI x) (by omega) 24 k 0 16777216 (by decide +kernel) (by omega) (by omega) (by omega) (by omega) (by omega)
    rw [if_neg c, hs, hr.uniq (rsqrtI_root (x := x) (by omega))]
theorem Same_l0 {a b : List Int} (hl : a.length = b.length) (hb : a.length ≤ 4611686018427387904) (d : Nat) : ∀ (k : Nat) (i : Int), 0 ≤ i → (a.length : Int) - i = d → d < k →
    aviaryref04_Same.l0 k a b i = some (decide (a.drop i.toNat = b.drop i.toNat)) := by
  induction d with
  | zero =>
    intro k i h0 hd hk
    obtain ⟨k, rfl⟩ : ∃ m, k = m + 1 := ⟨k - 1, by omega⟩
    simp only [aviaryref04_Same.l0]
    rw [if_neg (by omega), drop_len (by omega), drop_len (by omega)]
    simp
  | succ d ih =>
    intro k i h0 hd hk
    obtain ⟨k, rfl⟩ : ∃ m, k = m + 1 := ⟨k - 1, by omega⟩
    simp only [aviaryref04_Same.l0]
    rw [if_pos (by omega), if_pos h0, if_pos (by omega), drop_rd (l := a) h0 (by omega), drop_rd (l := b) h0 (by omega)]
    by_cases c : rd a i = rd b i
    · rw [if_pos c, wrap64_id (x := i + 1) (by omega) (by omega), ih k (i + 1) (by omega) (by omega) (by omega), c]
      simp
    · rw [if_neg c]
      simp [c]
theorem Same_eq {k : Nat} {a b : List Int} (hb : a.length ≤ 4611686018427387904) (hk : a.length < k) : aviaryref04_Same.f k a b = some (decide (a = b)) := by
  unfold aviaryref04_Same.f
  by_cases c : a.length = b.length
  · rw [if_pos (by omega), Same_l0 c hb a.length k 0 (by omega) (by omega) hk]
    rfl
  · rw [if_neg (by omega)]
    have : a ≠ b := fun h => c (by rw [h])
    simp [this]
theorem Same_refl {k : Nat} {a : List Int} (hb : a.length ≤ 4611686018427387904) (hk : a.length < k) : aviaryref04_Same.f k a a = some true := by rw [Same_eq hb hk]; simp
theorem Rms_l1 {x w : List Int} (r : Int) (hw : All8 w) (hl : x.length = w.length) (hb : x.length ≤ 4611686018427387904) (d : Nat) : ∀ (k : Nat) (i : Int), 0 ≤ i → (x.length : Int) - i = d → d < k →
    norm_Rms.l1 k x w r (fillI (rmsA r x w) i) (x.length : Int) i = some (rmsA r x w, 0) := by
  have hL : (rmsA r x w).length = x.length := rmsA_len hl
  induction d with
  | zero =>
    intro k i h0 hd hk
    obtain ⟨k, rfl⟩ : ∃ m, k = m + 1 := ⟨k - 1, by omega⟩
    simp only [norm_Rms.l1]
    rw [if_neg (by omega), fillI_end (by omega)]
  | succ d ih =>
    intro k i h0 hd hk
    obtain ⟨k, rfl⟩ : ∃ m, k = m + 1 := ⟨k - 1, by omega⟩
    have hr := rd8 hw i
    have hp := rms_prod (a := rd x i) (r := r) hr.1 hr.2
    simp only [norm_Rms.l1]
    rw [if_pos (by omega), if_pos h0, if_pos (by omega), Mul_eq]; simp only [Option.bind_some]
    rw [if_pos (by omega), wrap64_id (x := rd w i) (by omega) (by omega), wrap64_id (x := mulI (rd x i) r * rd w i) (by omega) (by omega), Shift_eq ⟨by omega, by omega⟩]; simp only [Option.bind_some]
    rw [Clamp_eq, shift_at nclamp6]; simp only [Option.bind_some]
    have e : clampI (rdivI (mulI (rd x i) r * rd w i) 6) = rd (rmsA r x w) i := by unfold rmsA; rw [rd_zipWith h0 (by omega) (by omega)]
    rw [if_pos (by rw [fillI_len (by omega)]; omega), e, fillI_set h0 (by omega), wrap64_id (x := i + 1) (by omega) (by omega)]
    exact ih k (i + 1) (by omega) (by omega) (by omega)
theorem Rms_l0 {x w : List Int} (hw : All8 w) (hx : All64 x) (hn : 0 < x.length) (hl : x.length = w.length) (hb : x.length ≤ 35184372088832) (d : Nat) : ∀ (k : Nat) (s i : Int), 0 ≤ i → (x.length : Int) - i = d → d + x.length + 27 < k → -9223372036854775808 ≤ s → s ≤ 9223372036854775807 →
    norm_Rms.l0 k x w (x.length : Int) s x (x.length : Int) i = some (rmsA (rootN x.length (dotA s (x.drop i.toNat) (x.drop i.toNat))) x w, 0) := by
  induction d with
  | zero =>
    intro k s i h0 hd hk hs0 hs1
    obtain ⟨k, rfl⟩ : ∃ m, k = m + 1 := ⟨k - 1, by omega⟩
    have ht := tdiv64 (b := (x.length : Int)) hs0 hs1 (by omega)
    have hq := rdiv16 ht.1 ht.2
    simp only [norm_Rms.l0]
    rw [if_neg (by omega), drop_len (by omega), if_neg (by omega), wrap64_id ht.1 ht.2, Shift_eq ht]; simp only [Option.bind_some]
    rw [shift_at nclamp16, wrap64_id (x := rdivI (Int.tdiv s x.length) 16 + 1) (by omega) (by omega), Clamp_eq]; simp only [Option.bind_some]
    rw [Rsqrt_eq (by omega)]; simp only [Option.bind_some]
    have hL : (rmsA (rootN x.length s) x w).length = x.length := rmsA_len hl
    have e : List.replicate ((x.length : Int)).toNat (0 : Int) = fillI (rmsA (rootN x.length s) x w) 0 := by rw [fillI_zero, hL]; rfl
    rw [if_pos (by omega), if_pos (by omega), e]
    exact Rms_l1 (rootN x.length s) hw hl (by omega) x.length k 0 (by omega) (by omega) (by omega)
  | succ d ih =>
    intro k s i h0 hd hk hs0 hs1
    obtain ⟨k, rfl⟩ : ∃ m, k = m + 1 := ⟨k - 1, by omega⟩
    have hp := clamp_prod (rd x i) (rd x i)
    simp only [norm_Rms.l0]
    rw [if_pos (by omega), if_pos h0, if_pos (by omega), Clamp_eq]; simp only [Option.bind_some]
    rw [wrap64_id (x := clampI (rd x i) * clampI (rd x i)) (by omega) (by omega), Add_eq ⟨hs0, hs1⟩ ⟨by omega, by omega⟩]; simp only [Option.bind_some]
    rw [wrap64_id (x := i + 1) (by omega) (by omega), ih k _ (i + 1) (by omega) (by omega) (by omega) (saddI_range _ _).1 (saddI_range _ _).2, drop_rd (l := x) h0 (by omega)]
    rfl
theorem Rms_eq {k : Nat} {x w : List Int} (hw : All8 w) (hx : All64 x) (hb : x.length ≤ 35184372088832) (hk : x.length + x.length + 30 < k) :
    norm_Rms.f k x w = some (if x.length = 0 ∨ x.length ≠ w.length then ([], 21) else (rmsI x w, 0)) := by
  obtain ⟨k, rfl⟩ : ∃ m, k = m + 1 := ⟨k - 1, by omega⟩
  unfold norm_Rms.f
  by_cases c : x.length = 0
  · rw [if_pos (by omega), if_pos (Or.inl c)]; simp [norm_Rms.j0]
  · rw [if_neg (by omega)]
    by_cases c2 : x.length = w.length
    · rw [if_neg (by omega), show ((x.length : Int) != (w.length : Int)) = false by simp [c2]]
      simp only [norm_Rms.j0]
      rw [if_neg (by simp)]
      exact Rms_l0 hw hx (by omega) c2 hb x.length k 0 0 (by omega) (by omega) (by omega) (by omega) (by omega)
    · rw [if_pos (Or.inr c2), show ((x.length : Int) != (w.length : Int)) = true by simp; omega]
      simp [norm_Rms.j0]
theorem rRms_l1 {x w : List Int} (r : Int) (hw : All8 w) (hl : x.length = w.length) (hb : x.length ≤ 17592186044416) (d : Nat) : ∀ (k : Nat) (i : Int), 0 ≤ i → (x.length : Int) - i = d → d + 1 < k →
    aviaryref05_Rms.l1 k x w r ((rmsA r x w).take i.toNat) i = some (rmsA r x w, 0) := by
  have hL : (rmsA r x w).length = x.length := rmsA_len hl
  induction d with
  | zero =>
    intro k i h0 hd hk
    obtain ⟨k, rfl⟩ : ∃ m, k = m + 1 := ⟨k - 1, by omega⟩
    simp only [aviaryref05_Rms.l1]
    rw [if_neg (by omega), take_len (by omega)]
  | succ d ih =>
    intro k i h0 hd hk
    obtain ⟨k, rfl⟩ : ∃ m, k = m + 1 := ⟨k - 1, by omega⟩
    have hr := rd8 hw i
    have hp := rms_prod (a := rd x i) (r := r) hr.1 hr.2
    simp only [aviaryref05_Rms.l1]
    rw [if_pos (by omega), if_pos h0, rMul_eq (by omega)]; simp only [Option.bind_some]
    rw [if_pos (by omega), wrap64_id (x := rd w i) (by omega) (by omega), wrap64_id (x := mulI (rd x i) r * rd w i) (by omega) (by omega), rShift_eq (by omega) ⟨by omega, by omega⟩]; simp only [Option.bind_some]
    rw [rClamp_eq, shift_at nclamp6]; simp only [Option.bind_some]
    have e : clampI (rdivI (mulI (rd x i) r * rd w i) 6) = rd (rmsA r x w) i := by unfold rmsA; rw [rd_zipWith h0 (by omega) (by omega)]
    rw [if_pos (by rw [List.length_take]; omega), e, take_rd h0 (by omega), wrap64_id (x := i + 1) (by omega) (by omega)]
    exact ih k (i + 1) (by omega) (by omega) (by omega)
theorem rRms_l0 {x w : List Int} (hw : All8 w) (hx : All64 x) (hn : 0 < x.length) (hl : x.length = w.length) (hb : x.length ≤ 17592186044416) (d : Nat) : ∀ (k : Nat) (s i : Int), 0 ≤ i → (x.length : Int) - i = d → d + x.length + 28 < k → -9223372036854775808 ≤ s → s ≤ 9223372036854775807 →
    aviaryref05_Rms.l0 k x w s i = some (rmsA (rootN x.length (dotA s (x.drop i.toNat) (x.drop i.toNat))) x w, 0) := by
  induction d with
  | zero =>
    intro k s i h0 hd hk hs0 hs1
    obtain ⟨k, rfl⟩ : ∃ m, k = m + 1 := ⟨k - 1, by omega⟩
    have ht := tdiv64 (b := (x.length : Int)) hs0 hs1 (by omega)
    have hq := rdiv16 ht.1 ht.2
    simp only [aviaryref05_Rms.l0]
    rw [if_neg (by omega), drop_len (by omega), if_neg (by omega), wrap64_id ht.1 ht.2, rShift_eq (by omega) ht]; simp only [Option.bind_some]
    rw [shift_at nclamp16, wrap64_id (x := rdivI (Int.tdiv s x.length) 16 + 1) (by omega) (by omega), rClamp_eq]; simp only [Option.bind_some]
    rw [rRsqrt_eq (by omega)]; simp only [Option.bind_some]
    exact rRms_l1 (rootN x.length s) hw hl (by omega) x.length k 0 (by omega) (by omega) (by omega)
  | succ d ih =>
    intro k s i h0 hd hk hs0 hs1
    obtain ⟨k, rfl⟩ : ∃ m, k = m + 1 := ⟨k - 1, by omega⟩
    have hp := clamp_prod (rd x i) (rd x i)
    simp only [aviaryref05_Rms.l0]
    rw [if_pos (by omega), if_pos h0, rClamp_eq]; simp only [Option.bind_some]
    rw [wrap64_id (x := clampI (rd x i) * clampI (rd x i)) (by omega) (by omega), rAdd_eq (by omega) ⟨hs0, hs1⟩ ⟨by omega, by omega⟩]; simp only [Option.bind_some]
    rw [wrap64_id (x := i + 1) (by omega) (by omega), ih k _ (i + 1) (by omega) (by omega) (by omega) (saddI_range _ _).1 (saddI_range _ _).2, drop_rd (l := x) h0 (by omega)]
    rfl
theorem rRms_eq {k : Nat} {x w : List Int} (hw : All8 w) (hx : All64 x) (hb : x.length ≤ 17592186044416) (hk : x.length + x.length + 30 < k) :
    aviaryref05_Rms.f k x w = some (if x.length = 0 ∨ x.length ≠ w.length then ([], 21) else (rmsI x w, 0)) := by
  obtain ⟨k, rfl⟩ : ∃ m, k = m + 1 := ⟨k - 1, by omega⟩
  unfold aviaryref05_Rms.f
  by_cases c : x.length = 0
  · rw [if_pos (by omega), if_pos (Or.inl c)]; simp [aviaryref05_Rms.j0]
  · rw [if_neg (by omega)]
    by_cases c2 : x.length = w.length
    · rw [if_neg (by omega), show ((x.length : Int) != (w.length : Int)) = false by simp [c2]]
      simp only [aviaryref05_Rms.j0]
      rw [if_neg (by simp)]
      exact rRms_l0 hw hx (by omega) c2 hb x.length k 0 0 (by omega) (by omega) (by omega) (by omega) (by omega)
    · rw [if_pos (Or.inr c2), show ((x.length : Int) != (w.length : Int)) = true by simp; omega]
      simp [aviaryref05_Rms.j0]
theorem NormSizes : aviarylaw05_NormSizes.Pure := by
  intro x w hx0 hx1 hx hw0 hw1 hw
  have hX := all64 hx
  have hW := all8 hw
  refine ⟨x.length + x.length + 100, ?_⟩
  unfold aviarylaw05_NormSizes.f
  simp only [Option.bind_some, List.nil_append, List.length_nil, Nat.zero_add]
  rw [if_pos (by omega), if_pos (by omega), Rms_eq hW hX (by omega) (by omega), rRms_eq hW hX (by omega) (by omega)]
  simp only [Option.bind_some]
  have hl : (if x.length = 0 ∨ x.length ≠ w.length then (([] : List Int), (21 : Int)) else (rmsI x w, 0)).1.length ≤ x.length := by
    split
    · simp
    · rename_i h
      have h2 : x.length = w.length := by omega
      simp only [rmsI]
      rw [rmsA_len h2]
      exact Nat.le_refl _
  rw [Same_refl (by omega) (by omega)]
  simp

end Go.Proofs.Ytembeccopodjmaa.Pure
