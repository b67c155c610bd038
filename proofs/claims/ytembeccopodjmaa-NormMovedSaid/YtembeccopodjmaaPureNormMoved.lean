/- The same number more for all members changes no share, and the mean of one row, however often it stands, is that row, clamped: for any row and any numbers. No condition. -/
import Derived.Test.YtembeccopodjmaaPNormMovedx4
import Derived.Test.YtembeccopodjmaaMSat
import Derived.Test.YtembeccopodjmaaMCurve
import Derived.Test.YtembeccopodjmaaMVec
import Derived.Test.YtembeccopodjmaaMNorm
import Derived.Test.YtembeccopodjmaaMShare
set_option linter.unusedVariables false
set_option linter.unusedSimpArgs false
namespace Go.Proofs.Ytembeccopodjmaa.Pure
open Go Go.RowKit Go.Proofs.Ytembeccopodjmaa.PNormMoved Go.Proofs.YtembeccopodjmaaW.PrintWords Go.Proofs.YtembeccopodjmaaW.PrintLast Go.Proofs.Ytembeccopodjmaa.Mth
theorem Clamp_eq (x : Int) : sat_Clamp.f x = some (clampI x) := by unfold sat_Clamp.f; rw [clamp_f1]
theorem rClamp_eq (x : Int) : aviaryref01_Clamp.f x = some (clampI x) := by unfold aviaryref01_Clamp.f; rw [clamp_f2]
theorem Add_eq {a b : Int} (ha : -9223372036854775808 ≤ a ∧ a ≤ 9223372036854775807) (hb : -9223372036854775808 ≤ b ∧ b ≤ 9223372036854775807) : sat_Add.f a b = some (saddI a b) := by
  unfold sat_Add.f
  have h := sadd_sign ha.1 ha.2 hb.1 hb.2
  by_cases c : (Go.bits .and .i64 (Go.bits .xor .i64 a (wrap64 (a + b))) (Go.bits .xor .i64 b (wrap64 (a + b)))) ≥ 0
  · rw [if_pos c]
    have h2 := h.1 c
    clear h c
    unfold wrap64 at *
    unfold saddI
    congr 1
    (repeat' split) <;> omega
  · rw [if_neg c]
    have h2 : ¬ ¬ _ := fun z => c (h.2 z)
    have h3 := Classical.not_not.1 h2
    clear h c h2
    unfold wrap64 at *
    unfold saddI
    (repeat' split) <;> first | rfl | omega
theorem Shift_eq {x : Int} (hx : -9223372036854775808 ≤ x ∧ x ≤ 9223372036854775807) (n : Int) : sat_Shift.f x n = some (shiftI x n) := by
  unfold sat_Shift.f shiftI
  have hm : mx (mn n 62) 0 = (nclampI n : Int) := by unfold mx mn nclampI; (repeat' split) <;> omega
  have hm2 : nclampI n ≤ 62 := by unfold nclampI; split <;> omega
  rw [hm]
  generalize nclampI n = m at *
  cases m with
  | zero => rfl
  | succ m =>
    rw [if_neg (by omega), if_pos (by omega)]
    have e1 : ((m + 1 : Nat) : Int).toNat = m + 1 := by omega
    have e2 : (((m + 1 : Nat) : Int) - 1).toNat = m := by omega
    rw [e1, e2]
    have hp := pow2_pos m
    have hP := pow2_succ m
    have hl := pow2_le62 hm2
    rw [wrap64_id (x := 2 ^ (m + 1)) (by omega) (by omega), wrap64_id (x := 2 ^ (m + 1) - 1) (by omega) (by omega), wrap64_id (x := 2 ^ m) (by omega) (by omega), bits_mask64 x (m + 1) hm2]
    have hr := Int.emod_nonneg x (show (2 : Int) ^ (m + 1) ≠ 0 by omega)
    have hr2 := Int.emod_lt_of_pos x (pow2_pos (m + 1))
    have hq := Int.mul_ediv_add_emod x (2 ^ (m + 1))
    have hqb : -9223372036854775808 ≤ x / 2 ^ (m + 1) + 1 ∧ x / 2 ^ (m + 1) + 1 ≤ 9223372036854775807 := by
      have h1 : x / 2 ^ (m + 1) ≤ 4611686018427387904 := by
        have := Int.ediv_le_ediv (c := 2 ^ (m + 1)) (by omega) hx.2
        have h3 : 9223372036854775807 / (2 : Int) ^ (m + 1) ≤ 4611686018427387904 := by
          have := Int.ediv_lt_of_lt_mul (a := 9223372036854775807) (b := 4611686018427387905) (c := 2 ^ (m + 1)) (by omega) (by omega)
          omega
        omega
      have h2 : -9223372036854775808 ≤ x / 2 ^ (m + 1) := by
        refine Int.le_ediv_of_mul_le (by omega) ?_
        omega
      omega
    rw [wrap64_id hqb.1 hqb.2]
    have key := rdivI_floor x m
    by_cases c : x % 2 ^ (m + 1) > 2 ^ m
    · rw [if_pos c, key, if_pos (Or.inl c)]
    · rw [if_neg c]
      by_cases d : x % 2 ^ (m + 1) = 2 ^ m
      · rw [if_pos d]
        by_cases e : x > 0
        · rw [if_pos e, key, if_pos (Or.inr ⟨d, e⟩)]
        · rw [if_neg e, key, if_neg (by omega)]
      · rw [if_neg d, key, if_neg (by omega)]
theorem Mul_eq (a b : Int) : sat_Mul.f a b = some (mulI a b) := by
  unfold sat_Mul.f mulI
  have h := clamp_prod a b
  rw [Clamp_eq, Clamp_eq]; simp only [Option.bind_some]
  rw [wrap64_id (by omega) (by omega), Shift_eq ⟨by omega, by omega⟩]; simp only [Option.bind_some]
  rw [Clamp_eq]; rfl
theorem Div_eq (a b : Int) : sat_Div.f a b = some (divI a b) := by
  unfold sat_Div.f divI
  have ha := clampI_range a
  have hb := clampI_range b
  rw [Clamp_eq, Clamp_eq]; simp only [Option.bind_some]
  by_cases c : clampI b = 0
  · rw [if_pos c, if_pos c]; (repeat' split) <;> rfl
  · rw [if_neg c, if_neg c]
    have h := tdiv_range (a := clampI a * 65536) (b := clampI b) (B := 140737488355328) (by omega) (by omega)
    rw [wrap64_id (x := clampI a * 65536) (by omega) (by omega), wrap64_id (by omega) (by omega), Clamp_eq]; rfl
theorem powers_eq {i : Int} (h0 : 0 ≤ i) (h1 : i < 17) : curve_powers.f i = some (rd powT i) := by
  unfold curve_powers.f; rw [if_pos h0, if_pos h1]; rfl
theorem Exp_eq (x : Int) : curve_Exp.f x = some (expI x) := by
  unfold curve_Exp.f
  have hm : mn x 0 = if 0 < x then 0 else x := rfl
  have ht := exptI_range x
  have e1 : mulI (if 0 < x then 0 else x) 94548 = - exptI x := by unfold exptI; omega
  rw [hm, Mul_eq, e1]; simp only [Option.bind_some]
  unfold expI
  generalize exptI x = t at *
  have e2 : wrap64 (-(-t)) = t := by rw [Int.neg_neg]; exact wrap64_id (by omega) (by omega)
  have e3 : Go.bits .and .i64 t 65535 = t % 65536 := bits_mask64 t 16 (by decide)
  have e4 : Go.bits .and .i64 (t % 65536) 4095 = t % 65536 % 4096 := bits_mask64 (t % 65536) 12 (by decide)
  rw [e2, e3, e4]
  unfold expTI
  by_cases c : t / 65536 > 16
  · rw [if_pos c, if_pos c]
  · rw [if_neg c, if_neg c]
    have hf : 0 ≤ t % 65536 ∧ t % 65536 < 65536 := by omega
    rw [wrap64_id (x := t % 65536 / 4096 + 1) (by omega) (by omega), powers_eq (by omega) (by omega), powers_eq (by omega) (by omega)]
    simp only [Option.bind_some]
    rw [if_pos (by omega)]
    have hp := pow_at hf.1 hf.2
    have hv := powv_bound hf.1 hf.2
    unfold powv at hv ⊢
    generalize rd powT (t % 65536 / 4096) = a at *
    generalize rd powT (t % 65536 / 4096 + 1) = b at *
    have hg : 0 ≤ t % 65536 % 4096 ∧ t % 65536 % 4096 ≤ 4096 := by omega
    have h2 : 0 ≤ (a - b) * (t % 65536 % 4096) := Int.mul_nonneg (by omega) hg.1
    have h3 : (a - b) * (t % 65536 % 4096) ≤ (a - b) * 4096 := Int.mul_le_mul_of_nonneg_left hg.2 (by omega)
    rw [wrap64_id (x := a - b) (by omega) (by omega)]
    generalize (a - b) * (t % 65536 % 4096) = p at *
    rw [wrap64_id (x := p) (by omega) (by omega), wrap64_id (x := a - p / 4096) (by omega) (by omega)]
    unfold shr
    rw [show min ((t / 65536).toNat) IntKind.i64.bits = (t / 65536).toNat by simp [IntKind.bits]; omega]
theorem Rsqrt_l0 : ∀ (n k : Nat) (M lo hi : Int), n < k → 0 ≤ lo → lo < hi → hi ≤ 16777217 → hi - lo ≤ 2 ^ n → curve_Rsqrt.l0 k M lo hi = some (bsI n M lo hi)
  | n, 0, M, lo, hi, hk, h0, h1, h2, h3 => by omega
  | 0, k + 1, M, lo, hi, hk, h0, h1, h2, h3 => by
    have : hi = lo + 1 := by simp at h3; omega
    subst this
    simp only [curve_Rsqrt.l0]
    rw [wrap64_id (by omega) (by omega), if_neg (by omega)]
    rfl
  | n + 1, k + 1, M, lo, hi, hk, h0, h1, h2, h3 => by
    have hP := pow2_succ n
    simp only [curve_Rsqrt.l0]
    unfold bsI
    have e1 : wrap64 (Int.tdiv (wrap64 (lo + hi)) 2) = (lo + hi) / 2 := by
      rw [wrap64_id (x := lo + hi) (by omega) (by omega), Int.tdiv_eq_ediv_of_nonneg (by omega)]
      exact wrap64_id (by omega) (by omega)
    rw [wrap64_id (x := hi - lo) (by omega) (by omega), e1]
    by_cases c : hi - lo > 1
    · have hs : (lo + hi) / 2 * ((lo + hi) / 2) ≤ 16777217 * 16777217 := sq_mono (by omega) (by omega)
      have hs0 : 0 ≤ (lo + hi) / 2 * ((lo + hi) / 2) := Int.mul_nonneg (by omega) (by omega)
      rw [if_pos c, if_pos c, wrap64_id (x := (lo + hi) / 2 * ((lo + hi) / 2)) (by omega) (by omega)]
      by_cases d : (lo + hi) / 2 * ((lo + hi) / 2) ≤ M
      · rw [if_pos d, if_pos d]
        exact Rsqrt_l0 n k M _ hi (by omega) (by omega) (by omega) (by omega) (by omega)
      · rw [if_neg d, if_neg d]
        exact Rsqrt_l0 n k M lo _ (by omega) (by omega) (by omega) (by omega) (by omega)
    · rw [if_neg c, if_neg c]
theorem Rsqrt_eq {k : Nat} (hk : 25 < k) (x : Int) : curve_Rsqrt.f k x = some (rsqrtI x) := by
  unfold curve_Rsqrt.f rsqrtI
  rw [Clamp_eq]; simp only [Option.bind_some]
  by_cases c : clampI x < 1
  · rw [if_pos c, if_pos c]
  · have hq := quo_range (x := clampI x) (by omega)
    rw [if_neg c, if_neg c, if_neg (by omega), Int.tdiv_eq_ediv_of_nonneg (by decide), wrap64_id (by omega) (by omega)]
    exact Rsqrt_l0 25 k _ 0 16777217 hk (by omega) (by omega) (by omega) (by decide +kernel)
theorem Same_l0 {a b : List Int} (hl : a.length = b.length) (hb : a.length ≤ 4611686018427387904) (d : Nat) : ∀ (k : Nat) (i : Int), 0 ≤ i → (a.length : Int) - i = d → d < k →
    aviaryref04_Same.l0 k a b i = some (decide (a.drop i.toNat = b.drop i.toNat)) := by
  induction d with
  | zero =>
    intro k i h0 hd hk
    obtain ⟨k, rfl⟩ : ∃ m, k = m + 1 := ⟨k - 1, by omega⟩
    simp only [aviaryref04_Same.l0]
    rw [if_neg (by omega), drop_len (by omega), drop_len (by omega)]
    simp
  | succ d ih =>
    intro k i h0 hd hk
    obtain ⟨k, rfl⟩ : ∃ m, k = m + 1 := ⟨k - 1, by omega⟩
    simp only [aviaryref04_Same.l0]
    rw [if_pos (by omega), if_pos h0, if_pos (by omega), drop_rd (l := a) h0 (by omega), drop_rd (l := b) h0 (by omega)]
    by_cases c : rd a i = rd b i
    · rw [if_pos c, wrap64_id (x := i + 1) (by omega) (by omega), ih k (i + 1) (by omega) (by omega) (by omega), c]
      simp
    · rw [if_neg c]
      simp [c]
theorem Same_eq {k : Nat} {a b : List Int} (hb : a.length ≤ 4611686018427387904) (hk : a.length < k) : aviaryref04_Same.f k a b = some (decide (a = b)) := by
  unfold aviaryref04_Same.f
  by_cases c : a.length = b.length
  · rw [if_pos (by omega), Same_l0 c hb a.length k 0 (by omega) (by omega) hk]
    rfl
  · rw [if_neg (by omega)]
    have : a ≠ b := fun h => c (by rw [h])
    simp [this]
theorem Same_refl {k : Nat} {a : List Int} (hb : a.length ≤ 4611686018427387904) (hk : a.length < k) : aviaryref04_Same.f k a a = some true := by rw [Same_eq hb hk]; simp
theorem Rms_l1 {x w : List Int} (r : Int) (hw : All8 w) (hl : x.length = w.length) (hb : x.length ≤ 4611686018427387904) (d : Nat) : ∀ (k : Nat) (i : Int), 0 ≤ i → (x.length : Int) - i = d → d < k →
    norm_Rms.l1 k x w r (fillI (rmsA r x w) i) (x.length : Int) i = some (rmsA r x w, 0) := by
  have hL : (rmsA r x w).length = x.length := rmsA_len hl
  induction d with
  | zero =>
    intro k i h0 hd hk
    obtain ⟨k, rfl⟩ : ∃ m, k = m + 1 := ⟨k - 1, by omega⟩
    simp only [norm_Rms.l1]
    rw [if_neg (by omega), fillI_end (by omega)]
  | succ d ih =>
    intro k i h0 hd hk
    obtain ⟨k, rfl⟩ : ∃ m, k = m + 1 := ⟨k - 1, by omega⟩
    have hr := rd8 hw i
    have hp := rms_prod (a := rd x i) (r := r) hr.1 hr.2
    simp only [norm_Rms.l1]
    rw [if_pos (by omega), if_pos h0, if_pos (by omega), Mul_eq]; simp only [Option.bind_some]
    rw [if_pos (by omega), wrap64_id (x := rd w i) (by omega) (by omega), wrap64_id (x := mulI (rd x i) r * rd w i) (by omega) (by omega), Shift_eq ⟨by omega, by omega⟩]; simp only [Option.bind_some]
    rw [Clamp_eq, shift_at nclamp6]; simp only [Option.bind_some]
    have e : clampI (rdivI (mulI (rd x i) r * rd w i) 6) = rd (rmsA r x w) i := by unfold rmsA; rw [rd_zipWith h0 (by omega) (by omega)]
    rw [if_pos (by rw [fillI_len (by omega)]; omega), e, fillI_set h0 (by omega), wrap64_id (x := i + 1) (by omega) (by omega)]
    exact ih k (i + 1) (by omega) (by omega) (by omega)
theorem Rms_l0 {x w : List Int} (hw : All8 w) (hx : All64 x) (hn : 0 < x.length) (hl : x.length = w.length) (hb : x.length ≤ 35184372088832) (d : Nat) : ∀ (k : Nat) (s i : Int), 0 ≤ i → (x.length : Int) - i = d → d + x.length + 27 < k → -9223372036854775808 ≤ s → s ≤ 9223372036854775807 →
    norm_Rms.l0 k x w (x.length : Int) s x (x.length : Int) i = some (rmsA (rootN x.length (dotA s (x.drop i.toNat) (x.drop i.toNat))) x w, 0) := by
  induction d with
  | zero =>
    intro k s i h0 hd hk hs0 hs1
    obtain ⟨k, rfl⟩ : ∃ m, k = m + 1 := ⟨k - 1, by omega⟩
    have ht := tdiv64 (b := (x.length : Int)) hs0 hs1 (by omega)
    have hq := rdiv16 ht.1 ht.2
    simp only [norm_Rms.l0]
    rw [if_neg (by omega), drop_len (by omega), if_neg (by omega), wrap64_id ht.1 ht.2, Shift_eq ht]; simp only [Option.bind_some]
    rw [shift_at nclamp16, wrap64_id (x := rdivI (Int.tdiv s x.length) 16 + 1) (by omega) (by omega), Clamp_eq]; simp only [Option.bind_some]
    rw [Rsqrt_eq (by omega)]; simp only [Option.bind_some]
    have hL : (rmsA (rootN x.length s) x w).length = x.length := rmsA_len hl
    have e : List.replicate ((x.length : Int)).toNat (0 : Int) = fillI (rmsA (rootN x.length s) x w) 0 := by rw [fillI_zero, hL]; rfl
    rw [if_pos (by omega), if_pos (by omega), e]
    exact Rms_l1 (rootN x.length s) hw hl (by omega) x.length k 0 (by omega) (by omega) (by omega)
  | succ d ih =>
    intro k s i h0 hd hk hs0 hs1
    obtain ⟨k, rfl⟩ : ∃ m, k = m + 1 := ⟨k - 1, by omega⟩
    have hp := clamp_prod (rd x i) (rd x i)
    simp only [norm_Rms.l0]
    rw [if_pos (by omega), if_pos h0, if_pos (by omega), Clamp_eq]; simp only [Option.bind_some]
    rw [wrap64_id (x := clampI (rd x i) * clampI (rd x i)) (by omega) (by omega), Add_eq ⟨hs0, hs1⟩ ⟨by omega, by omega⟩]; simp only [Option.bind_some]
    rw [wrap64_id (x := i + 1) (by omega) (by omega), ih k _ (i + 1) (by omega) (by omega) (by omega) (saddI_range _ _).1 (saddI_range _ _).2, drop_rd (l := x) h0 (by omega)]
    rfl
theorem Rms_eq {k : Nat} {x w : List Int} (hw : All8 w) (hx : All64 x) (hb : x.length ≤ 35184372088832) (hk : x.length + x.length + 30 < k) :
    norm_Rms.f k x w = some (if x.length = 0 ∨ x.length ≠ w.length then ([], 21) else (rmsI x w, 0)) := by
  obtain ⟨k, rfl⟩ : ∃ m, k = m + 1 := ⟨k - 1, by omega⟩
  unfold norm_Rms.f
  by_cases c : x.length = 0
  · rw [if_pos (by omega), if_pos (Or.inl c)]; simp [norm_Rms.j0]
  · rw [if_neg (by omega)]
    by_cases c2 : x.length = w.length
    · rw [if_neg (by omega), show ((x.length : Int) != (w.length : Int)) = false by simp [c2]]
      simp only [norm_Rms.j0]
      rw [if_neg (by simp)]
      exact Rms_l0 hw hx (by omega) c2 hb x.length k 0 0 (by omega) (by omega) (by omega) (by omega) (by omega)
    · rw [if_pos (Or.inr c2), show ((x.length : Int) != (w.length : Int)) = true by simp; omega]
      simp [norm_Rms.j0]
theorem Max_l0 {x : List Int} (hb : x.length ≤ 4611686018427387904) (d : Nat) : ∀ (k : Nat) (m i : Int), 0 ≤ i → (x.length : Int) - i = d → d < k →
    slices_Max_int64_int64.l0 k x m i = some (maxI m (x.drop i.toNat)) := by
  induction d with
  | zero =>
    intro k m i h0 hd hk
    obtain ⟨k, rfl⟩ : ∃ m, k = m + 1 := ⟨k - 1, by omega⟩
    simp only [slices_Max_int64_int64.l0]
    rw [if_neg (by omega), drop_len (by omega)]
    rfl
  | succ d ih =>
    intro k m i h0 hd hk
    obtain ⟨k, rfl⟩ : ∃ m, k = m + 1 := ⟨k - 1, by omega⟩
    simp only [slices_Max_int64_int64.l0]
    rw [if_pos (by omega), if_pos h0, wrap64_id (x := i + 1) (by omega) (by omega), ih k _ (i + 1) (by omega) (by omega) (by omega), drop_rd (l := x) h0 (by omega)]
    rfl
theorem Max_eq {k : Nat} {x : List Int} (hb : x.length ≤ 4611686018427387904) (hn : 0 < x.length) (hk : x.length < k) : slices_Max_int64_int64.f k x = some (maxI (rd x 0) (x.drop 1)) := by
  unfold slices_Max_int64_int64.f
  rw [if_neg (by omega), if_pos (by omega), Max_l0 hb (x.length - 1) k _ 1 (by omega) (by omega) (by omega)]
  rfl
theorem Soft_l1 {E : List Int} (s : Int) (hb : E.length ≤ 4611686018427387904) (d : Nat) : ∀ (k : Nat) (i : Int), 0 ≤ i → (E.length : Int) - i = d → d < k →
    norm_Soft.l1 k (overI (E.map fun e => divI e s) E i) s (E.length : Int) i = some (E.map fun e => divI e s) := by
  have hL : (E.map fun e => divI e s).length = E.length := by simp
  induction d with
  | zero =>
    intro k i h0 hd hk
    obtain ⟨k, rfl⟩ : ∃ m, k = m + 1 := ⟨k - 1, by omega⟩
    simp only [norm_Soft.l1]
    rw [if_neg (by omega), overI_end hL (by omega)]
  | succ d ih =>
    intro k i h0 hd hk
    obtain ⟨k, rfl⟩ : ∃ m, k = m + 1 := ⟨k - 1, by omega⟩
    simp only [norm_Soft.l1]
    rw [if_pos (by omega), if_pos h0, if_pos (by rw [overI_len hL]; omega), overI_rd hL h0 (by omega), Div_eq]; simp only [Option.bind_some]
    have e : divI (rd E i) s = rd (E.map fun e => divI e s) i := by rw [rd_map h0 (by omega)]
    rw [e, overI_set hL h0 (by omega), wrap64_id (x := i + 1) (by omega) (by omega)]
    exact ih k (i + 1) (by omega) (by omega) (by omega)
theorem Soft_l0 {x : List Int} (t : Int) (ht0 : -2147483648 ≤ t) (ht1 : t ≤ 2147483647) (hb : x.length ≤ 35184372088832) (d : Nat) : ∀ (k : Nat) (i : Int), 0 ≤ i → (x.length : Int) - i = d → d + x.length + 1 < k →
    norm_Soft.l0 k x t (fillI (expsI t x) i) ((expsI t x).take i.toNat).sum (x.length : Int) i = some ((expsI t x).map fun e => divI e (expsI t x).sum) := by
  have hL := expsI_len t x
  induction d with
  | zero =>
    intro k i h0 hd hk
    obtain ⟨k, rfl⟩ : ∃ m, k = m + 1 := ⟨k - 1, by omega⟩
    simp only [norm_Soft.l0]
    rw [if_neg (by omega), fillI_end (by omega), take_len (by omega)]
    have := Soft_l1 (E := expsI t x) (expsI t x).sum (by omega) x.length k 0 (by omega) (by omega) (by omega)
    rw [overI_zero, hL] at this
    exact this
  | succ d ih =>
    intro k i h0 hd hk
    obtain ⟨k, rfl⟩ : ∃ m, k = m + 1 := ⟨k - 1, by omega⟩
    have hc := clampI_range (rd x i)
    have hs := expsI_sum t x (i + 1).toNat
    simp only [norm_Soft.l0]
    rw [if_pos (by omega), if_pos h0, if_pos (by omega), Clamp_eq]; simp only [Option.bind_some]
    rw [wrap64_id (x := clampI (rd x i) - t) (by omega) (by omega), Exp_eq]; simp only [Option.bind_some]
    have e : expI (clampI (rd x i) - t) = rd (expsI t x) i := by unfold expsI; rw [rd_map h0 (by omega)]
    rw [if_pos (by rw [fillI_len (by omega)]; omega), e, fillI_set h0 (by omega), fillI_rd h0 (by omega), ← take_sum h0 (by omega), wrap64_id (x := i + 1) (by omega) (by omega), wrap64_id (x := ((expsI t x).take (i + 1).toNat).sum) (by omega) (by omega)]
    exact ih k (i + 1) (by omega) (by omega) (by omega)
theorem Soft_eq {k : Nat} {x : List Int} (hb : x.length ≤ 35184372088832) (hk : x.length + x.length + 1 < k) : norm_Soft.f k x = some (softI x) := by
  unfold norm_Soft.f
  by_cases c : x.length = 0
  · rw [if_pos (by omega)]
    have : x = [] := List.eq_nil_of_length_eq_zero c
    subst this
    rfl
  · rw [if_neg (by omega), Max_eq (by omega) (by omega) (by omega)]; simp only [Option.bind_some]
    rw [Clamp_eq]; simp only [Option.bind_some]
    have hL := expsI_len (topI x) x
    have e : List.replicate ((x.length : Int)).toNat (0 : Int) = fillI (expsI (topI x) x) 0 := by rw [fillI_zero, hL]; rfl
    rw [if_pos (by omega), if_pos (by omega), e]
    have hr := topI_range x
    exact Soft_l0 (topI x) hr.1 hr.2 hb x.length k 0 (by omega) (by omega) hk
theorem Mean_l2 {l : List (List Int)} {V : List Int} (hn : 0 < l.length) (hV : All64 V) (hb : V.length ≤ 4611686018427387904) (d : Nat) : ∀ (k : Nat) (i : Int), 0 ≤ i → (V.length : Int) - i = d → d < k →
    norm_Mean.l2 k l (overI (V.map (meanG l.length)) V i) (V.length : Int) i = some (V.map (meanG l.length), 0) := by
  have hL : (V.map (meanG l.length)).length = V.length := by simp
  induction d with
  | zero =>
    intro k i h0 hd hk
    obtain ⟨k, rfl⟩ : ∃ m, k = m + 1 := ⟨k - 1, by omega⟩
    simp only [norm_Mean.l2]
    rw [if_neg (by omega), overI_end hL (by omega)]
  | succ d ih =>
    intro k i h0 hd hk
    obtain ⟨k, rfl⟩ : ∃ m, k = m + 1 := ⟨k - 1, by omega⟩
    have hr := rd64 hV i
    have ht := tdiv64 (b := (l.length : Int)) hr.1 hr.2 (by omega)
    simp only [norm_Mean.l2]
    rw [if_pos (by omega), if_pos h0, if_pos (by rw [overI_len hL]; omega), if_neg (by omega), overI_rd hL h0 (by omega), wrap64_id ht.1 ht.2, Clamp_eq]; simp only [Option.bind_some]
    have e : clampI (Int.tdiv (rd V i) (l.length : Int)) = rd (V.map (meanG l.length)) i := by rw [rd_map h0 (by omega)]; rfl
    rw [e, overI_set hL h0 (by omega), wrap64_id (x := i + 1) (by omega) (by omega)]
    exact ih k (i + 1) (by omega) (by omega) (by omega)
theorem Mean_l1 {l : List (List Int)} {v r : List Int} {i : Int} {R : Option (List Int × Int)} {K : Nat} (hv : All64 v) (hl : r.length = v.length) (hb : v.length ≤ 4611686018427387904) (hR : ∀ k, K ≤ k → norm_Mean.l0 k l (addC v r) l (l.length : Int) (wrap64 (i + 1)) = R) (d : Nat) : ∀ (k : Nat) (j : Int), 0 ≤ j → (v.length : Int) - j = d → K + d + 1 ≤ k →
    norm_Mean.l1 k l (overI (addC v r) v j) r l (l.length : Int) i (r.length : Int) j = R := by
  have hL : (addC v r).length = v.length := addC_len hl
  induction d with
  | zero =>
    intro k j h0 hd hk
    obtain ⟨k, rfl⟩ : ∃ m, k = m + 1 := ⟨k - 1, by omega⟩
    simp only [norm_Mean.l1]
    rw [if_neg (by omega), overI_end hL (by omega)]
    exact hR k (by omega)
  | succ d ih =>
    intro k j h0 hd hk
    obtain ⟨k, rfl⟩ : ∃ m, k = m + 1 := ⟨k - 1, by omega⟩
    have hr := rd64 hv j
    have hc := clampI_range (rd r j)
    simp only [norm_Mean.l1]
    rw [if_pos (by omega), if_pos h0, if_pos (by rw [overI_len hL]; omega), if_pos (by omega), Clamp_eq]; simp only [Option.bind_some]
    rw [overI_rd hL h0 (by omega), Add_eq hr ⟨by omega, by omega⟩]; simp only [Option.bind_some]
    have e : saddI (rd v j) (clampI (rd r j)) = rd (addC v r) j := by unfold addC; rw [rd_zipWith h0 (by omega) (by omega)]
    rw [e, overI_set hL h0 (by omega), wrap64_id (x := j + 1) (by omega) (by omega)]
    exact ih k (j + 1) (by omega) (by omega) (by omega)
theorem Mean_l0 {l : List (List Int)} (hn : 0 < l.length) (hb : l.length ≤ 4611686018427387904) (d : Nat) : ∀ (v : List Int) (i : Int), All64 v → v.length ≤ 4611686018427387904 → 0 ≤ i → (l.length : Int) - i = d →
    ∃ K, ∀ k, K ≤ k → norm_Mean.l0 k l v l (l.length : Int) i = some (if ∀ r ∈ l.drop i.toNat, r.length = v.length then ((accA v (l.drop i.toNat)).map (meanG l.length), 0) else ([], 21)) := by
  induction d with
  | zero =>
    intro v i hv hbv h0 hd
    refine ⟨v.length + 2, fun k hk => ?_⟩
    obtain ⟨k, rfl⟩ : ∃ m, k = m + 1 := ⟨k - 1, by omega⟩
    simp only [norm_Mean.l0]
    rw [if_neg (by omega), dropL_len (by omega), if_pos (by simp)]
    have := Mean_l2 hn hv hbv v.length k 0 (by omega) (by omega) (by omega)
    rw [overI_zero] at this
    exact this
  | succ d ih =>
    intro v i hv hbv h0 hd
    rw [dropL_rd h0 (by omega)]
    by_cases c : (rdL l i).length = v.length
    · have hA := addC_len c
      obtain ⟨K, hK⟩ := ih (addC v (rdL l i)) (i + 1) addC_all64 (by omega) (by omega) (by omega)
      refine ⟨K + v.length + 2, fun k hk => ?_⟩
      obtain ⟨k, rfl⟩ : ∃ m, k = m + 1 := ⟨k - 1, by omega⟩
      have hR : ∀ k, K ≤ k → norm_Mean.l0 k l (addC v (rdL l i)) l (l.length : Int) (wrap64 (i + 1)) = some (if ∀ r ∈ l.drop (i + 1).toNat, r.length = v.length then ((accA (addC v (rdL l i)) (l.drop (i + 1).toNat)).map (meanG l.length), 0) else ([], 21)) := by
        intro k hk
        rw [wrap64_id (x := i + 1) (by omega) (by omega), hK k hk, hA]
      have h1 := Mean_l1 hv c hbv hR v.length k 0 (by omega) (by omega) (by omega)
      rw [overI_zero] at h1
      simp only [norm_Mean.l0]
      rw [show rd_L1 = rdL from rfl, if_pos (by omega), if_pos h0, if_pos (by omega), if_pos (by omega), h1]
      simp only [List.forall_mem_cons, c, true_and]
      rfl
    · refine ⟨1, fun k hk => ?_⟩
      obtain ⟨k, rfl⟩ : ∃ m, k = m + 1 := ⟨k - 1, by omega⟩
      simp only [norm_Mean.l0]
      rw [show rd_L1 = rdL from rfl, if_pos (by omega), if_pos h0, if_pos (by omega), if_neg (by omega), if_neg (by simp only [List.forall_mem_cons, c, false_and, not_false_eq_true])]
theorem Mean_eq {l : List (List Int)} (hb : l.length ≤ 4611686018427387904) (hr : (rdL l 0).length ≤ 35184372088832) : ∃ K, ∀ k, K ≤ k → norm_Mean.f k l = some (meanI l) := by
  unfold norm_Mean.f meanI
  by_cases c : l.length = 0
  · refine ⟨0, fun k _ => ?_⟩
    rw [if_pos (by omega), if_pos c]
  · obtain ⟨K, hK⟩ := Mean_l0 (l := l) (by omega) hb l.length (List.replicate (rdL l 0).length 0) 0 (all64_noughts _) (by simp; omega) (by omega) (by omega)
    refine ⟨K, fun k hk => ?_⟩
    rw [if_neg (by omega), if_neg c, show rd_L1 = rdL from rfl, if_pos (by omega), if_pos (by omega), if_pos (by omega), Int.toNat_natCast, hK k hk]
    simp only [Int.toNat_zero, List.drop_zero, List.length_replicate]
    rfl
theorem works_eq : ∃ K, ∀ k, K ≤ k → aviarylaw05_works.f k = some true := by
  obtain ⟨K, hK⟩ := Mean_eq (l := [[1, 2], [3, 4]]) (by simp) (by simp [rdL])
  refine ⟨K + 200, fun k hk => ?_⟩
  have a1 : All64 [65536, 65536] := by intro x hx; simp at hx; omega
  have a2 : All8 [64, 64] := by intro x hx; simp at hx; omega
  have a3 : All64 [] := by intro x hx; simp at hx
  have a4 : All8 [] := by intro x hx; simp at hx
  unfold aviarylaw05_works.f
  rw [Rms_eq a2 a1 (by simp) (by simp; omega), Soft_eq (x := [0, 0]) (by simp) (by simp; omega), hK k (by omega), Rms_eq a4 a3 (by simp) (by simp; omega), Soft_eq (x := [5]) (by simp) (by simp; omega)]
  have e1 : rmsI [65536, 65536] [64, 64] = [65535, 65535] := by decide +kernel
  have e2 : softI [0, 0] = [32768, 32768] := by decide +kernel
  have e3 : softI [5] = [65536] := by decide +kernel
  have e4 : meanI [[1, 2], [3, 4]] = ([2, 3], 0) := by decide +kernel
  simp only [Option.bind_some, List.length_cons, List.length_nil]
  simp [e1, e2, e3, e4, Same_eq (show ([65535, 65535] : List Int).length ≤ 4611686018427387904 by decide) (show ([65535, 65535] : List Int).length < k by simp; omega), Same_eq (show ([32768, 32768] : List Int).length ≤ 4611686018427387904 by decide) (show ([32768, 32768] : List Int).length < k by simp; omega), Same_eq (show ([65536] : List Int).length ≤ 4611686018427387904 by decide) (show ([65536] : List Int).length < k by simp; omega), Same_eq (show ([2, 3] : List Int).length ≤ 4611686018427387904 by decide) (show ([2, 3] : List Int).length < k by simp; omega)]

theorem maxI_add (c : Int) : ∀ (l : List Int) (m : Int), maxI (m + c) (l.map fun v => v + c) = maxI m l + c
  | [], m => rfl
  | a :: tl, m => by
    have e : mx (m + c) (a + c) = mx m a + c := by unfold mx; split <;> split <;> omega
    simp only [List.map_cons, maxI]
    rw [e, maxI_add c tl]
theorem maxI_in {lo hi : Int} : ∀ (l : List Int) (m : Int), lo ≤ m → m ≤ hi → (∀ v ∈ l, lo ≤ v ∧ v ≤ hi) → lo ≤ maxI m l ∧ maxI m l ≤ hi
  | [], m, h0, h1, _ => ⟨h0, h1⟩
  | a :: tl, m, h0, h1, h => by
    have ha := h a List.mem_cons_self
    have e : lo ≤ mx m a ∧ mx m a ≤ hi := by unfold mx; split <;> omega
    exact maxI_in tl _ e.1 e.2 fun v hv => h v (List.mem_cons_of_mem _ hv)
theorem soft_moved {a : List Int} {c : Int} (h : ∀ v ∈ a, -1073741824 ≤ v ∧ v ≤ 1073741824) (hc0 : -1073741823 ≤ c) (hc1 : c ≤ 1073741823) : softI (a.map fun v => v + c) = softI a := by
  cases a with
  | nil => rfl
  | cons x tl =>
    have hx := h x List.mem_cons_self
    have hm := maxI_in tl x hx.1 hx.2 fun v hv => h v (List.mem_cons_of_mem _ hv)
    have e1 : topI ((x :: tl).map fun v => v + c) = topI (x :: tl) + c := by
      unfold topI
      rw [show rd ((x :: tl).map fun v => v + c) 0 = x + c from rfl, show rd (x :: tl) 0 = x from rfl, show ((x :: tl).map fun v => v + c).drop 1 = tl.map fun v => v + c from rfl, show (x :: tl).drop 1 = tl from rfl, maxI_add, clampI_id (by omega) (by omega), clampI_id (by omega) (by omega)]
    have e2 : expsI (topI (x :: tl) + c) ((x :: tl).map fun v => v + c) = expsI (topI (x :: tl)) (x :: tl) := by
      unfold expsI
      rw [List.map_map]
      apply List.map_congr_left
      intro v hv
      have hv := h v hv
      show expI (clampI (v + c) - (topI (x :: tl) + c)) = expI (clampI v - topI (x :: tl))
      rw [clampI_id (x := v + c) (by omega) (by omega), clampI_id (x := v) (by omega) (by omega)]
      congr 1
      omega
    unfold softI
    rw [e1, e2]
theorem colA_same (j : Int) (x : List Int) : ∀ (m : Nat) (s : Int), m ≤ 20 → -2147483648 * 20 ≤ s → s ≤ 2147483647 * 20 → colA s j (List.replicate m x) = s + (m : Int) * clampI (rd x j)
  | 0, s, _, _, _ => by simp [colA]
  | m + 1, s, hm, h0, h1 => by
    have hc := clampI_range (rd x j)
    have key : ∀ (m : Nat) (s : Int), -4611686018427387904 + 4294967296 * (m : Int) ≤ s → s ≤ 4611686018427387904 - 4294967296 * (m : Int) → colA s j (List.replicate m x) = s + (m : Int) * clampI (rd x j) := by
      intro m
      induction m with
      | zero => intro s _ _; simp [colA]
      | succ m ih =>
        intro s g0 g1
        rw [List.replicate_succ]
        simp only [colA]
        rw [saddI_id (by omega) (by omega), ih _ (by omega) (by omega)]
        have : ((m + 1 : Nat) : Int) * clampI (rd x j) = (m : Int) * clampI (rd x j) + clampI (rd x j) := by rw [Int.natCast_succ, Int.add_mul]; omega
        omega
    exact key (m + 1) s (by omega) (by omega)
theorem mean_same {x : List Int} {m : Nat} (h0 : 0 < m) (h1 : m ≤ 20) : meanI (List.replicate m x) = (x.map clampI, 0) := by
  have hd : rdL (List.replicate m x) 0 = x := by unfold rdL; rw [List.getD_eq_getElem?_getD, List.getElem?_replicate, if_pos (by omega)]; rfl
  have hall : ∀ r ∈ List.replicate m x, r.length = (rdL (List.replicate m x) 0).length := by intro r hr; rw [hd, List.eq_of_mem_replicate hr]
  unfold meanI
  rw [if_neg (by simp; omega), if_pos hall]
  have hL := meanRow_len hall
  rw [hd] at hL
  congr 1
  apply List.ext_getElem
  · rw [hL]; simp
  · intro i hi hi2
    have g := meanRow_rd (j := (i : Int)) (by omega) (by rw [hd]; omega) hall
    have e : rd (meanRow (List.replicate m x)) (i : Int) = (meanRow (List.replicate m x))[i] := by unfold rd; rw [List.getD_eq_getElem?_getD, Int.toNat_natCast, List.getElem?_eq_getElem hi]; rfl
    have e2 : rd x (i : Int) = x[i]'(by omega) := by unfold rd; rw [List.getD_eq_getElem?_getD, Int.toNat_natCast, List.getElem?_eq_getElem (by omega)]; rfl
    rw [← e, g, colA_same _ _ m 0 h1 (by decide) (by decide), List.getElem_map, ← e2, List.length_replicate]
    unfold meanG
    rw [Int.zero_add, Int.mul_comm, Int.mul_tdiv_cancel _ (by omega), clampI_idem]
def low (v : Int) : Int := Int.tmod v 1073741824
theorem low_range (v : Int) : -1073741823 ≤ low v ∧ low v ≤ 1073741823 := by
  unfold low
  have h1 := Int.tmod_lt_of_pos v (show (0 : Int) < 1073741824 by decide)
  have h2 := Int.tmod_lt_of_pos (-v) (show (0 : Int) < 1073741824 by decide)
  rw [Int.neg_tmod] at h2
  omega
theorem moved_l1 {x : List Int} {n : Int} {m : Nat} (hm : wrap64 (Int.tmod (IntKind.u64.wrap n) 20) = (m : Int)) (h19 : m ≤ 19) (hb : x.length ≤ 1000) (d : Nat) : ∀ (i : Nat), i + d = m + 1 →
    ∃ B, ∀ k, B ≤ k → aviarylaw05_NormMoved.l1 k x n (x.map clampI) (List.replicate i x) (i : Int) = some true := by
  induction d with
  | zero =>
    intro i hd
    have hmn := mean_same (x := x) (m := i) (by omega) (by omega)
    have hr0 : (rdL (List.replicate i x) 0).length ≤ 35184372088832 := by unfold rdL; rw [List.getD_eq_getElem?_getD, List.getElem?_replicate, if_pos (by omega)]; simp; omega
    obtain ⟨B, hB⟩ := Mean_eq (l := List.replicate i x) (by simp; omega) hr0
    refine ⟨B + x.length + 10, fun k hk => ?_⟩
    obtain ⟨k, rfl⟩ : ∃ m, k = m + 1 := ⟨k - 1, by omega⟩
    simp only [aviarylaw05_NormMoved.l1]
    rw [if_neg (by rw [hm]; omega), hB k (by omega), hmn, Option.bind_some, if_pos rfl, Same_refl (by simp; omega) (by simp; omega)]
    rfl
  | succ d ih =>
    intro i hd
    obtain ⟨B, hB⟩ := ih (i + 1) (by omega)
    refine ⟨B + 1, fun k hk => ?_⟩
    obtain ⟨k, rfl⟩ : ∃ m, k = m + 1 := ⟨k - 1, by omega⟩
    simp only [aviarylaw05_NormMoved.l1]
    rw [if_pos (by rw [hm]; omega), if_pos (by simp; omega), wrapN_succ (by omega), show List.replicate i x ++ [x] = List.replicate (i + 1) x from List.replicate_succ'.symm]
    exact hB k (by omega)
theorem moved_l0 {x : List Int} {by' n : Int} (hb0 : -1073741823 ≤ by') (hb1 : by' ≤ 1073741823) (hb : x.length ≤ 1000) (hrest : ∃ B, ∀ k, B ≤ k → aviarylaw05_NormMoved.l1 k x n (x.map clampI) [] 0 = some true) (d : Nat) : ∀ (i : Int), 0 ≤ i → (x.length : Int) - i = d →
    ∃ B, ∀ k, B ≤ k → aviarylaw05_NormMoved.l0 k x by' n ((x.map low).take i.toNat) (((x.map low).map fun v => v + by').take i.toNat) ((x.map clampI).take i.toNat) i = some true := by
  have l1 : (x.map low).length = x.length := by simp
  have l2 : ((x.map low).map fun v => v + by').length = x.length := by simp
  have l3 : (x.map clampI).length = x.length := by simp
  induction d with
  | zero =>
    intro i h0 hd
    obtain ⟨B, hB⟩ := hrest
    have hs := soft_moved (a := x.map low) (c := by') (by intro v hv; obtain ⟨u, -, rfl⟩ := List.mem_map.1 hv; have := low_range u; omega) hb0 hb1
    have hsl := softI_len (x.map low)
    refine ⟨B + 5000, fun k hk => ?_⟩
    obtain ⟨k, rfl⟩ : ∃ m, k = m + 1 := ⟨k - 1, by omega⟩
    simp only [aviarylaw05_NormMoved.l0]
    rw [if_neg (by omega), take_len (by omega), take_len (by omega), take_len (by omega), Soft_eq (by omega) (by omega), Option.bind_some, Soft_eq (by omega) (by omega), Option.bind_some, hs, Same_refl (by omega) (by omega), Option.bind_some, if_pos rfl]
    exact hB k (by omega)
  | succ d ih =>
    intro i h0 hd
    obtain ⟨B, hB⟩ := ih (i + 1) (by omega) (by omega)
    have hr := low_range (rd x i)
    refine ⟨B + 1, fun k hk => ?_⟩
    obtain ⟨k, rfl⟩ : ∃ m, k = m + 1 := ⟨k - 1, by omega⟩
    have e1 : Int.tmod (rd x i) 1073741824 = rd (x.map low) i := by rw [rd_map h0 (by omega)]; rfl
    have e2 : rd (x.map low) i + by' = rd ((x.map low).map fun v => v + by') i := by rw [rd_map (l := x.map low) h0 (by omega)]
    have e3 : clampI (rd x i) = rd (x.map clampI) i := by rw [rd_map h0 (by omega)]
    simp only [aviarylaw05_NormMoved.l0]
    rw [if_pos (by omega), if_pos h0, if_pos (by rw [List.length_take]; omega), if_pos (by rw [List.length_take]; omega), rClamp_eq, Option.bind_some, if_pos (by rw [List.length_take]; omega), wrap64_id (x := i + 1) (by omega) (by omega),
      wrap64_id (x := Int.tmod (rd x i) 1073741824 + by') (by unfold low at hr; omega) (by unfold low at hr; omega), e1, e2, e3, take_rd h0 (by omega), take_rd h0 (by omega), take_rd h0 (by omega)]
    exact hB k (by omega)
theorem NormMoved (x : List Int) (by' n : Int) (hm : x.length ≤ maxLen) (hb : x.length * 8 ≤ 140737488351232) (hx : ∀ v ∈ x, (Lit.int .i64 v).wf = true) (w1 : (Lit.int .i64 by').wf = true) (w2 : (Lit.int .i64 n).wf = true) : ∃ k, aviarylaw05_NormMoved.f k x by' n = some true := by
  obtain ⟨K, hK⟩ := works_eq
  by_cases c : (x.length : Int) > 1000
  · refine ⟨K, ?_⟩
    unfold aviarylaw05_NormMoved.f
    rw [hK _ (Nat.le_refl _), Option.bind_some, if_pos rfl, if_pos c]
  · have hr := low_range by'
    have hu : 0 ≤ IntKind.u64.wrap n := by rw [wrapu64]; exact Int.emod_nonneg _ (by decide)
    have ht0 : 0 ≤ Int.tmod (IntKind.u64.wrap n) 20 := Int.tmod_nonneg _ hu
    have ht1 := Int.tmod_lt_of_pos (IntKind.u64.wrap n) (show (0 : Int) < 20 by decide)
    obtain ⟨m, hm'⟩ := Int.eq_ofNat_of_zero_le ht0
    have hw : wrap64 (Int.tmod (IntKind.u64.wrap n) 20) = (m : Int) := by rw [hm', wrap64_id (by omega) (by omega)]
    have hl1 := moved_l1 (x := x) (n := n) hw (by omega) (by omega) (m + 1) 0 (by omega)
    obtain ⟨B, hB⟩ := moved_l0 (x := x) (by' := low by') (n := n) hr.1 hr.2 (by omega) hl1 x.length 0 (by omega) (by omega)
    refine ⟨K + B, ?_⟩
    unfold aviarylaw05_NormMoved.f
    rw [hK _ (by omega), Option.bind_some, if_pos rfl, if_neg c]
    exact hB _ (by omega)

end Go.Proofs.Ytembeccopodjmaa.Pure
