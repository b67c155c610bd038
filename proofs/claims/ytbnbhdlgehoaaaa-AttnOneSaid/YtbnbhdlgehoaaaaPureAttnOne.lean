/- Of one row of keys and values the answer of all heads is the row of values, clamped, whatever is asked. No condition. -/
import Derived.Test.YtbnbhdlgehoaaaaPAttnOnex6
import Derived.Test.YtbnbhdlgehoaaaaMSat
import Derived.Test.YtbnbhdlgehoaaaaMCurve
import Derived.Test.YtbnbhdlgehoaaaaMVec
import Derived.Test.YtbnbhdlgehoaaaaMNorm
import Derived.Test.YtbnbhdlgehoaaaaMShare
import Derived.Test.YtbnbhdlgehoaaaaMAttn
import Derived.Test.YtbnbhdlgehoaaaaMAll
set_option linter.unusedVariables false
set_option linter.unusedSimpArgs false
namespace Go.Proofs.Ytbnbhdlgehoaaaa.Pure
open Go Go.RowKit Go.Proofs.Ytbnbhdlgehoaaaa.PAttnOne Go.Proofs.YtbnbhdlgehoaaaaW.PrintWords Go.Proofs.YtbnbhdlgehoaaaaW.PrintLast Go.Proofs.Ytbnbhdlgehoaaaa.Mth
theorem Clamp_eq (x : Int) : sat_Clamp.f x = some (clampI x) := by unfold sat_Clamp.f; rw [clamp_f1]
theorem rClamp_eq (x : Int) : aviaryref01_Clamp.f x = some (clampI x) := by unfold aviaryref01_Clamp.f; rw [clamp_f2]
theorem Add_eq {a b : Int} (ha : -9223372036854775808 ≤ a ∧ a ≤ 9223372036854775807) (hb : -9223372036854775808 ≤ b ∧ b ≤ 9223372036854775807) : sat_Add.f a b = some (saddI a b) := by
  unfold sat_Add.f
  have h := sadd_sign ha.1 ha.2 hb.1 hb.2
  by_cases c : (Go.bits .and .i64 (Go.bits .xor .i64 a (wrap64 (a + b))) (Go.bits .xor .i64 b (wrap64 (a + b)))) ≥ 0
  · rw [if_pos c]
    have h2 := h.1 c
    clear h c
    unfold wrap64 at *
    unfold saddI
    congr 1
    (repeat' split) <;> omega
  · rw [if_neg c]
    have h2 : ¬ ¬ _ := fun z => c (h.2 z)
    have h3 := Classical.not_not.1 h2
    clear h c h2
    unfold wrap64 at *
    unfold saddI
    (repeat' split) <;> first | rfl | omega
theorem Shift_eq {x : Int} (hx : -9223372036854775808 ≤ x ∧ x ≤ 9223372036854775807) (n : Int) : sat_Shift.f x n = some (shiftI x n) := by
  unfold sat_Shift.f shiftI
  have hm : mx (mn n 62) 0 = (nclampI n : Int) := by unfold mx mn nclampI; (repeat' split) <;> omega
  have hm2 : nclampI n ≤ 62 := by unfold nclampI; split <;> omega
  rw [hm]
  generalize nclampI n = m at *
  cases m with
  | zero => rfl
  | succ m =>
    rw [if_neg (by omega), if_pos (by omega)]
    have e1 : ((m + 1 : Nat) : Int).toNat = m + 1 := by omega
    have e2 : (((m + 1 : Nat) : Int) - 1).toNat = m := by omega
    rw [e1, e2]
    have hp := pow2_pos m
    have hP := pow2_succ m
    have hl := pow2_le62 hm2
    rw [wrap64_id (x := 2 ^ (m + 1)) (by omega) (by omega), wrap64_id (x := 2 ^ (m + 1) - 1) (by omega) (by omega), wrap64_id (x := 2 ^ m) (by omega) (by omega), bits_mask64 x (m + 1) hm2]
    have hr := Int.emod_nonneg x (show (2 : Int) ^ (m + 1) ≠ 0 by omega)
    have hr2 := Int.emod_lt_of_pos x (pow2_pos (m + 1))
    have hq := Int.mul_ediv_add_emod x (2 ^ (m + 1))
    have hqb : -9223372036854775808 ≤ x / 2 ^ (m + 1) + 1 ∧ x / 2 ^ (m + 1) + 1 ≤ 9223372036854775807 := by
      have h1 : x / 2 ^ (m + 1) ≤ 4611686018427387904 := by
        have := Int.ediv_le_ediv (c := 2 ^ (m + 1)) (by omega) hx.2
        have h3 : 9223372036854775807 / (2 : Int) ^ (m + 1) ≤ 4611686018427387904 := by
          have := Int.ediv_lt_of_lt_mul (a := 9223372036854775807) (b := 4611686018427387905) (c := 2 ^ (m + 1)) (by omega) (by omega)
          omega
        omega
      have h2 : -9223372036854775808 ≤ x / 2 ^ (m + 1) := by
        refine Int.le_ediv_of_mul_le (by omega) ?_
        omega
      omega
    rw [wrap64_id hqb.1 hqb.2]
    have key := rdivI_floor x m
    by_cases c : x % 2 ^ (m + 1) > 2 ^ m
    · rw [if_pos c, key, if_pos (Or.inl c)]
    · rw [if_neg c]
      by_cases d : x % 2 ^ (m + 1) = 2 ^ m
      · rw [if_pos d]
        by_cases e : x > 0
        · rw [if_pos e, key, if_pos (Or.inr ⟨d, e⟩)]
        · rw [if_neg e, key, if_neg (by omega)]
      · rw [if_neg d, key, if_neg (by omega)]
theorem Mul_eq (a b : Int) : sat_Mul.f a b = some (mulI a b) := by
  unfold sat_Mul.f mulI
  have h := clamp_prod a b
  rw [Clamp_eq, Clamp_eq]; simp only [Option.bind_some]
  rw [wrap64_id (by omega) (by omega), Shift_eq ⟨by omega, by omega⟩]; simp only [Option.bind_some]
  rw [Clamp_eq]; rfl
theorem Div_eq (a b : Int) : sat_Div.f a b = some (divI a b) := by
  unfold sat_Div.f divI
  have ha := clampI_range a
  have hb := clampI_range b
  rw [Clamp_eq, Clamp_eq]; simp only [Option.bind_some]
  by_cases c : clampI b = 0
  · rw [if_pos c, if_pos c]; (repeat' split) <;> rfl
  · rw [if_neg c, if_neg c]
    have h := tdiv_range (a := clampI a * 65536) (b := clampI b) (B := 140737488355328) (by omega) (by omega)
    rw [wrap64_id (x := clampI a * 65536) (by omega) (by omega), wrap64_id (by omega) (by omega), Clamp_eq]; rfl
theorem powers_eq {i : Int} (h0 : 0 ≤ i) (h1 : i < 17) : curve_powers.f i = some (rd powT i) := by
  unfold curve_powers.f; rw [if_pos h0, if_pos h1]; rfl
theorem Exp_eq (x : Int) : curve_Exp.f x = some (expI x) := by
  unfold curve_Exp.f
  have hm : mn x 0 = if 0 < x then 0 else x := rfl
  have ht := exptI_range x
  have e1 : mulI (if 0 < x then 0 else x) 94548 = - exptI x := by unfold exptI; omega
  rw [hm, Mul_eq, e1]; simp only [Option.bind_some]
  unfold expI
  generalize exptI x = t at *
  have e2 : wrap64 (-(-t)) = t := by rw [Int.neg_neg]; exact wrap64_id (by omega) (by omega)
  have e3 : Go.bits .and .i64 t 65535 = t % 65536 := bits_mask64 t 16 (by decide)
  have e4 : Go.bits .and .i64 (t % 65536) 4095 = t % 65536 % 4096 := bits_mask64 (t % 65536) 12 (by decide)
  rw [e2, e3, e4]
  unfold expTI
  by_cases c : t / 65536 > 16
  · rw [if_pos c, if_pos c]
  · rw [if_neg c, if_neg c]
    have hf : 0 ≤ t % 65536 ∧ t % 65536 < 65536 := by omega
    rw [wrap64_id (x := t % 65536 / 4096 + 1) (by omega) (by omega), powers_eq (by omega) (by omega), powers_eq (by omega) (by omega)]
    simp only [Option.bind_some]
    rw [if_pos (by omega)]
    have hp := pow_at hf.1 hf.2
    have hv := powv_bound hf.1 hf.2
    unfold powv at hv ⊢
    generalize rd powT (t % 65536 / 4096) = a at *
    generalize rd powT (t % 65536 / 4096 + 1) = b at *
    have hg : 0 ≤ t % 65536 % 4096 ∧ t % 65536 % 4096 ≤ 4096 := by omega
    have h2 : 0 ≤ (a - b) * (t % 65536 % 4096) := Int.mul_nonneg (by omega) hg.1
    have h3 : (a - b) * (t % 65536 % 4096) ≤ (a - b) * 4096 := Int.mul_le_mul_of_nonneg_left hg.2 (by omega)
    rw [wrap64_id (x := a - b) (by omega) (by omega)]
    generalize (a - b) * (t % 65536 % 4096) = p at *
    rw [wrap64_id (x := p) (by omega) (by omega), wrap64_id (x := a - p / 4096) (by omega) (by omega)]
    unfold shr
    rw [show min ((t / 65536).toNat) IntKind.i64.bits = (t / 65536).toNat by simp [IntKind.bits]; omega]
theorem Rsqrt_l0 : ∀ (n k : Nat) (M lo hi : Int), n < k → 0 ≤ lo → lo < hi → hi ≤ 16777217 → hi - lo ≤ 2 ^ n → curve_Rsqrt.l0 k M lo hi = some (bsI n M lo hi)
  | n, 0, M, lo, hi, hk, h0, h1, h2, h3 => by omega
  | 0, k + 1, M, lo, hi, hk, h0, h1, h2, h3 => by
    have : hi = lo + 1 := by simp at h3; omega
    subst this
    simp only [curve_Rsqrt.l0]
    rw [wrap64_id (by omega) (by omega), if_neg (by omega)]
    rfl
  | n + 1, k + 1, M, lo, hi, hk, h0, h1, h2, h3 => by
    have hP := pow2_succ n
    simp only [curve_Rsqrt.l0]
    unfold bsI
    have e1 : wrap64 (Int.tdiv (wrap64 (lo + hi)) 2) = (lo + hi) / 2 := by
      rw [wrap64_id (x := lo + hi) (by omega) (by omega), Int.tdiv_eq_ediv_of_nonneg (by omega)]
      exact wrap64_id (by omega) (by omega)
    rw [wrap64_id (x := hi - lo) (by omega) (by omega), e1]
    by_cases c : hi - lo > 1
    · have hs : (lo + hi) / 2 * ((lo + hi) / 2) ≤ 16777217 * 16777217 := sq_mono (by omega) (by omega)
      have hs0 : 0 ≤ (lo + hi) / 2 * ((lo + hi) / 2) := Int.mul_nonneg (by omega) (by omega)
      rw [if_pos c, if_pos c, wrap64_id (x := (lo + hi) / 2 * ((lo + hi) / 2)) (by omega) (by omega)]
      by_cases d : (lo + hi) / 2 * ((lo + hi) / 2) ≤ M
      · rw [if_pos d, if_pos d]
        exact Rsqrt_l0 n k M _ hi (by omega) (by omega) (by omega) (by omega) (by omega)
      · rw [if_neg d, if_neg d]
        exact Rsqrt_l0 n k M lo _ (by omega) (by omega) (by omega) (by omega) (by omega)
    · rw [if_neg c, if_neg c]
theorem Rsqrt_eq {k : Nat} (hk : 25 < k) (x : Int) : curve_Rsqrt.f k x = some (rsqrtI x) := by
  unfold curve_Rsqrt.f rsqrtI
  rw [Clamp_eq]; simp only [Option.bind_some]
  by_cases c : clampI x < 1
  · rw [if_pos c, if_pos c]
  · have hq := quo_range (x := clampI x) (by omega)
    rw [if_neg c, if_neg c, if_neg (by omega), Int.tdiv_eq_ediv_of_nonneg (by decide), wrap64_id (by omega) (by omega)]
    exact Rsqrt_l0 25 k _ 0 16777217 hk (by omega) (by omega) (by omega) (by decide +kernel)
theorem sum64_l0 {w x : List Int} (hw : All64 w) (hx : All64 x) (hl : w.length = x.length) (hb : w.length ≤ 4611686018427387904) (d : Nat) : ∀ (k : Nat) (s i : Int), 0 ≤ i → (w.length : Int) - i = d → d < k → -9223372036854775808 ≤ s → s ≤ 9223372036854775807 →
    vec_sum_int64.l0 k x s w (w.length : Int) i = some (dotA s (w.drop i.toNat) (x.drop i.toNat)) := by
  induction d with
  | zero =>
    intro k s i h0 hd hk hs0 hs1
    obtain ⟨k, rfl⟩ : ∃ m, k = m + 1 := ⟨k - 1, by omega⟩
    simp only [vec_sum_int64.l0]
    rw [if_neg (by omega), drop_len (by omega)]
    rfl
  | succ d ih =>
    intro k s i h0 hd hk hs0 hs1
    obtain ⟨k, rfl⟩ : ∃ m, k = m + 1 := ⟨k - 1, by omega⟩
    have hp := clamp_prod (rd w i) (rd x i)
    simp only [vec_sum_int64.l0]
    rw [if_pos (by omega), if_pos h0, if_pos (by omega), Clamp_eq]; simp only [Option.bind_some]
    rw [if_pos (by omega), Clamp_eq]; simp only [Option.bind_some]
    rw [wrap64_id (x := clampI (rd w i) * clampI (rd x i)) (by omega) (by omega), Add_eq ⟨hs0, hs1⟩ ⟨by omega, by omega⟩]; simp only [Option.bind_some]
    rw [wrap64_id (x := i + 1) (by omega) (by omega), ih k _ (i + 1) (by omega) (by omega) (by omega) (saddI_range _ _).1 (saddI_range _ _).2, drop_rd (l := w) h0 (by omega), drop_rd (l := x) h0 (by omega)]
    rfl
theorem sum64_eq {k : Nat} {w x : List Int} (hw : All64 w) (hx : All64 x) (hl : w.length = x.length) (hb : w.length ≤ 4611686018427387904) (hk : w.length < k) : vec_sum_int64.f k w x = some (dotA 0 w x) := by
  unfold vec_sum_int64.f
  rw [sum64_l0 hw hx hl hb w.length k 0 0 (by omega) (by omega) hk (by omega) (by omega)]
  rfl
theorem Inner_eq {k : Nat} {w x : List Int} (hw : All64 w) (hx : All64 x) (hb : w.length ≤ 4611686018427387904) (hk : w.length < k) : vec_Inner.f k w x = some (if w.length = x.length then (innerI w x, 0) else (0, 21)) := by
  unfold vec_Inner.f
  by_cases c : w.length = x.length
  · have hr := dotA_range 0 w x (by omega) (by omega)
    rw [if_pos (by omega), if_pos c, sum64_eq hw hx c hb hk]; simp only [Option.bind_some]
    rw [Shift_eq hr]; simp only [Option.bind_some]
    rw [Clamp_eq, shift_at nclamp16]; rfl
  · rw [if_neg (by omega), if_neg c]
theorem Same_l0 {a b : List Int} (hl : a.length = b.length) (hb : a.length ≤ 4611686018427387904) (d : Nat) : ∀ (k : Nat) (i : Int), 0 ≤ i → (a.length : Int) - i = d → d < k →
    aviaryref04_Same.l0 k a b i = some (decide (a.drop i.toNat = b.drop i.toNat)) := by
  induction d with
  | zero =>
    intro k i h0 hd hk
    obtain ⟨k, rfl⟩ : ∃ m, k = m + 1 := ⟨k - 1, by omega⟩
    simp only [aviaryref04_Same.l0]
    rw [if_neg (by omega), drop_len (by omega), drop_len (by omega)]
    simp
  | succ d ih =>
    intro k i h0 hd hk
    obtain ⟨k, rfl⟩ : ∃ m, k = m + 1 := ⟨k - 1, by omega⟩
    simp only [aviaryref04_Same.l0]
    rw [if_pos (by omega), if_pos h0, if_pos (by omega), drop_rd (l := a) h0 (by omega), drop_rd (l := b) h0 (by omega)]
    by_cases c : rd a i = rd b i
    · rw [if_pos c, wrap64_id (x := i + 1) (by omega) (by omega), ih k (i + 1) (by omega) (by omega) (by omega), c]
      simp
    · rw [if_neg c]
      simp [c]
theorem Same_eq {k : Nat} {a b : List Int} (hb : a.length ≤ 4611686018427387904) (hk : a.length < k) : aviaryref04_Same.f k a b = some (decide (a = b)) := by
  unfold aviaryref04_Same.f
  by_cases c : a.length = b.length
  · rw [if_pos (by omega), Same_l0 c hb a.length k 0 (by omega) (by omega) hk]
    rfl
  · rw [if_neg (by omega)]
    have : a ≠ b := fun h => c (by rw [h])
    simp [this]
theorem Same_refl {k : Nat} {a : List Int} (hb : a.length ≤ 4611686018427387904) (hk : a.length < k) : aviaryref04_Same.f k a a = some true := by rw [Same_eq hb hk]; simp
theorem Max_l0 {x : List Int} (hb : x.length ≤ 4611686018427387904) (d : Nat) : ∀ (k : Nat) (m i : Int), 0 ≤ i → (x.length : Int) - i = d → d < k →
    slices_Max_int64_int64.l0 k x m i = some (maxI m (x.drop i.toNat)) := by
  induction d with
  | zero =>
    intro k m i h0 hd hk
    obtain ⟨k, rfl⟩ : ∃ m, k = m + 1 := ⟨k - 1, by omega⟩
    simp only [slices_Max_int64_int64.l0]
    rw [if_neg (by omega), drop_len (by omega)]
    rfl
  | succ d ih =>
    intro k m i h0 hd hk
    obtain ⟨k, rfl⟩ : ∃ m, k = m + 1 := ⟨k - 1, by omega⟩
    simp only [slices_Max_int64_int64.l0]
    rw [if_pos (by omega), if_pos h0, wrap64_id (x := i + 1) (by omega) (by omega), ih k _ (i + 1) (by omega) (by omega) (by omega), drop_rd (l := x) h0 (by omega)]
    rfl
theorem Max_eq {k : Nat} {x : List Int} (hb : x.length ≤ 4611686018427387904) (hn : 0 < x.length) (hk : x.length < k) : slices_Max_int64_int64.f k x = some (maxI (rd x 0) (x.drop 1)) := by
  unfold slices_Max_int64_int64.f
  rw [if_neg (by omega), if_pos (by omega), Max_l0 hb (x.length - 1) k _ 1 (by omega) (by omega) (by omega)]
  rfl
theorem Soft_l1 {E : List Int} (s : Int) (hb : E.length ≤ 4611686018427387904) (d : Nat) : ∀ (k : Nat) (i : Int), 0 ≤ i → (E.length : Int) - i = d → d < k →
    norm_Soft.l1 k (overI (E.map fun e => divI e s) E i) s (E.length : Int) i = some (E.map fun e => divI e s) := by
  have hL : (E.map fun e => divI e s).length = E.length := by simp
  induction d with
  | zero =>
    intro k i h0 hd hk
    obtain ⟨k, rfl⟩ : ∃ m, k = m + 1 := ⟨k - 1, by omega⟩
    simp only [norm_Soft.l1]
    rw [if_neg (by omega), overI_end hL (by omega)]
  | succ d ih =>
    intro k i h0 hd hk
    obtain ⟨k, rfl⟩ : ∃ m, k = m + 1 := ⟨k - 1, by omega⟩
    simp only [norm_Soft.l1]
    rw [if_pos (by omega), if_pos h0, if_pos (by rw [overI_len hL]; omega), overI_rd hL h0 (by omega), Div_eq]; simp only [Option.bind_some]
    have e : divI (rd E i) s = rd (E.map fun e => divI e s) i := by rw [rd_map h0 (by omega)]
    rw [e, overI_set hL h0 (by omega), wrap64_id (x := i + 1) (by omega) (by omega)]
    exact ih k (i + 1) (by omega) (by omega) (by omega)
theorem Soft_l0 {x : List Int} (t : Int) (ht0 : -2147483648 ≤ t) (ht1 : t ≤ 2147483647) (hb : x.length ≤ 35184372088832) (d : Nat) : ∀ (k : Nat) (i : Int), 0 ≤ i → (x.length : Int) - i = d → d + x.length + 1 < k →
    norm_Soft.l0 k x t (fillI (expsI t x) i) ((expsI t x).take i.toNat).sum (x.length : Int) i = some ((expsI t x).map fun e => divI e (expsI t x).sum) := by
  have hL := expsI_len t x
  induction d with
  | zero =>
    intro k i h0 hd hk
    obtain ⟨k, rfl⟩ : ∃ m, k = m + 1 := ⟨k - 1, by omega⟩
    simp only [norm_Soft.l0]
    rw [if_neg (by omega), fillI_end (by omega), take_len (by omega)]
    have := Soft_l1 (E := expsI t x) (expsI t x).sum (by omega) x.length k 0 (by omega) (by omega) (by omega)
    rw [overI_zero, hL] at this
    exact this
  | succ d ih =>
    intro k i h0 hd hk
    obtain ⟨k, rfl⟩ : ∃ m, k = m + 1 := ⟨k - 1, by omega⟩
    have hc := clampI_range (rd x i)
    have hs := expsI_sum t x (i + 1).toNat
    simp only [norm_Soft.l0]
    rw [if_pos (by omega), if_pos h0, if_pos (by omega), Clamp_eq]; simp only [Option.bind_some]
    rw [wrap64_id (x := clampI (rd x i) - t) (by omega) (by omega), Exp_eq]; simp only [Option.bind_some]
    have e : expI (clampI (rd x i) - t) = rd (expsI t x) i := by unfold expsI; rw [rd_map h0 (by omega)]
    rw [if_pos (by rw [fillI_len (by omega)]; omega), e, fillI_set h0 (by omega), fillI_rd h0 (by omega), ← take_sum h0 (by omega), wrap64_id (x := i + 1) (by omega) (by omega), wrap64_id (x := ((expsI t x).take (i + 1).toNat).sum) (by omega) (by omega)]
    exact ih k (i + 1) (by omega) (by omega) (by omega)
theorem Soft_eq {k : Nat} {x : List Int} (hb : x.length ≤ 35184372088832) (hk : x.length + x.length + 1 < k) : norm_Soft.f k x = some (softI x) := by
  unfold norm_Soft.f
  by_cases c : x.length = 0
  · rw [if_pos (by omega)]
    have : x = [] := List.eq_nil_of_length_eq_zero c
    subst this
    rfl
  · rw [if_neg (by omega), Max_eq (by omega) (by omega) (by omega)]; simp only [Option.bind_some]
    rw [Clamp_eq]; simp only [Option.bind_some]
    have hL := expsI_len (topI x) x
    have e : List.replicate ((x.length : Int)).toNat (0 : Int) = fillI (expsI (topI x) x) 0 := by rw [fillI_zero, hL]; rfl
    rw [if_pos (by omega), if_pos (by omega), e]
    have hr := topI_range x
    exact Soft_l0 (topI x) hr.1 hr.2 hb x.length k 0 (by omega) (by omega) hk
theorem fit_l0 {q : List Int} {K V : List (List Int)} (hl : K.length = V.length) (hb : K.length ≤ 4611686018427387904) (d : Nat) : ∀ (k : Nat) (i : Int), 0 ≤ i → (K.length : Int) - i = d → d < k →
    attn_fit.l0 k q K V (K.length : Int) i = some (decide ((∀ r ∈ K.drop i.toNat, r.length = q.length) ∧ ∀ r ∈ V.drop i.toNat, r.length = q.length)) := by
  induction d with
  | zero =>
    intro k i h0 hd hk
    obtain ⟨k, rfl⟩ : ∃ m, k = m + 1 := ⟨k - 1, by omega⟩
    simp only [attn_fit.l0]
    rw [if_neg (by omega), dropL_len (l := K) (by omega), dropL_len (l := V) (by omega)]
    simp
  | succ d ih =>
    intro k i h0 hd hk
    obtain ⟨k, rfl⟩ : ∃ m, k = m + 1 := ⟨k - 1, by omega⟩
    simp only [attn_fit.l0]
    rw [show rd_L1 = rdL from rfl, if_pos (by omega), if_pos h0, if_pos (by omega), dropL_rd (l := K) h0 (by omega), dropL_rd (l := V) h0 (by omega), wrap64_id (x := i + 1) (by omega) (by omega), ih k (i + 1) (by omega) (by omega) (by omega)]
    by_cases c : (rdL K i).length = q.length
    · rw [if_pos (by omega), if_pos (by omega)]
      by_cases c2 : (rdL V i).length = q.length
      · rw [if_pos (by omega)]
        congr 1
        simp only [List.forall_mem_cons, c, c2, true_and]
      · rw [if_neg (by omega)]
        simp only [List.forall_mem_cons, c2, false_and, and_false, decide_false]
    · rw [if_neg (by omega)]
      simp only [List.forall_mem_cons, c, false_and, decide_false]
theorem fit_eq {k : Nat} {q : List Int} {K V : List (List Int)} (hb : K.length ≤ 4611686018427387904) (hk : K.length + 1 < k) : attn_fit.f k q K V = some (decide (Fit q K V)) := by
  obtain ⟨k, rfl⟩ : ∃ m, k = m + 1 := ⟨k - 1, by omega⟩
  have no : attn_fit.j0 (k + 1) q K V true = some false := by simp [attn_fit.j0]
  unfold attn_fit.f
  by_cases c : q.length = 0
  · rw [if_pos (by omega), no, decide_eq_false (fun h => h.1 c)]
  · rw [if_neg (by omega)]
    by_cases c2 : K.length = 0
    · rw [if_pos (by omega), no, decide_eq_false (fun h => h.2.1 c2)]
    · rw [if_neg (by omega)]
      by_cases c3 : K.length = V.length
      · rw [show ((K.length : Int) != (V.length : Int)) = false by simp [c3]]
        simp only [attn_fit.j0]
        rw [if_neg (by simp), fit_l0 c3 hb K.length k 0 (by omega) (by omega) (by omega)]
        have c4 : ¬ V.length = 0 := by omega
        congr 1
        simp only [Fit, Int.toNat_zero, List.drop_zero, ne_eq, c, c3, c4, not_false_eq_true, true_and]
      · rw [show ((K.length : Int) != (V.length : Int)) = true by simp; omega, no, decide_eq_false (fun h => c3 h.2.2.1)]
theorem Head_l3 {A : List Int} (hA : All64 A) (hb : A.length ≤ 4611686018427387904) (d : Nat) : ∀ (k : Nat) (i : Int), 0 ≤ i → (A.length : Int) - i = d → d < k →
    attn_Head.l3 k (overI (A.map outG) A i) (A.length : Int) i = some (A.map outG, 0) := by
  have hL : (A.map outG).length = A.length := by simp
  induction d with
  | zero =>
    intro k i h0 hd hk
    obtain ⟨k, rfl⟩ : ∃ m, k = m + 1 := ⟨k - 1, by omega⟩
    simp only [attn_Head.l3]
    rw [if_neg (by omega), overI_end hL (by omega)]
  | succ d ih =>
    intro k i h0 hd hk
    obtain ⟨k, rfl⟩ : ∃ m, k = m + 1 := ⟨k - 1, by omega⟩
    simp only [attn_Head.l3]
    rw [if_pos (by omega), if_pos h0, if_pos (by rw [overI_len hL]; omega), overI_rd hL h0 (by omega), Shift_eq (rd64 hA i)]; simp only [Option.bind_some]
    rw [Clamp_eq, shift_at nclamp16]; simp only [Option.bind_some]
    have e : clampI (rdivI (rd A i) 16) = rd (A.map outG) i := by rw [rd_map h0 (by omega)]; rfl
    rw [e, overI_set hL h0 (by omega), wrap64_id (x := i + 1) (by omega) (by omega)]
    exact ih k (i + 1) (by omega) (by omega) (by omega)
theorem Head_l2 {V : List (List Int)} {v r S : List Int} {s i : Int} {R : Option (List Int × Int)} {K : Nat} (hs0 : -2147483648 ≤ s) (hs1 : s ≤ 2147483647) (hv : All64 v) (hl : r.length = v.length) (hb : v.length ≤ 4611686018427387904) (hR : ∀ k, K ≤ k → attn_Head.l1 k V (addS s v r) S (S.length : Int) (wrap64 (i + 1)) = R) (d : Nat) : ∀ (k : Nat) (j : Int), 0 ≤ j → (v.length : Int) - j = d → K + d + 1 ≤ k →
    attn_Head.l2 k V (overI (addS s v r) v j) s S (S.length : Int) i r (r.length : Int) j = R := by
  have hL : (addS s v r).length = v.length := addS_len hl
  induction d with
  | zero =>
    intro k j h0 hd hk
    obtain ⟨k, rfl⟩ : ∃ m, k = m + 1 := ⟨k - 1, by omega⟩
    simp only [attn_Head.l2]
    rw [if_neg (by omega), overI_end hL (by omega)]
    exact hR k (by omega)
  | succ d ih =>
    intro k j h0 hd hk
    obtain ⟨k, rfl⟩ : ∃ m, k = m + 1 := ⟨k - 1, by omega⟩
    have hr := rd64 hv j
    have hp := share_prod (s := s) (rd r j) hs0 hs1
    simp only [attn_Head.l2]
    rw [if_pos (by omega), if_pos h0, if_pos (by omega), if_pos (by rw [overI_len hL]; omega), Clamp_eq]; simp only [Option.bind_some]
    rw [overI_rd hL h0 (by omega), wrap64_id (x := s * clampI (rd r j)) (by omega) (by omega), Add_eq hr ⟨by omega, by omega⟩]; simp only [Option.bind_some]
    have e : saddI (rd v j) (s * clampI (rd r j)) = rd (addS s v r) j := by unfold addS; rw [rd_zipWith h0 (by omega) (by omega)]
    rw [e, overI_set hL h0 (by omega), wrap64_id (x := j + 1) (by omega) (by omega)]
    exact ih k (j + 1) (by omega) (by omega) (by omega)
theorem Head_l1 {V : List (List Int)} {S : List Int} (hS : ∀ s ∈ S, -2147483648 ≤ s ∧ s ≤ 2147483647) (hl : S.length = V.length) (hb : S.length ≤ 4611686018427387904) (d : Nat) : ∀ (v : List Int) (i : Int), All64 v → v.length ≤ 4611686018427387904 → (∀ r ∈ V, r.length = v.length) → 0 ≤ i → (S.length : Int) - i = d →
    ∃ K, ∀ k, K ≤ k → attn_Head.l1 k V v S (S.length : Int) i = some ((accS v (S.drop i.toNat) (V.drop i.toNat)).map outG, 0) := by
  induction d with
  | zero =>
    intro v i hv hbv hr h0 hd
    refine ⟨v.length + 2, fun k hk => ?_⟩
    obtain ⟨k, rfl⟩ : ∃ m, k = m + 1 := ⟨k - 1, by omega⟩
    simp only [attn_Head.l1]
    rw [if_neg (by omega), drop_len (l := S) (by omega)]
    have := Head_l3 hv hbv v.length k 0 (by omega) (by omega) (by omega)
    rw [overI_zero] at this
    rw [this]
    cases V.drop i.toNat <;> rfl
  | succ d ih =>
    intro v i hv hbv hr h0 hd
    have hm := hr _ (rdL_mem h0 (show i < V.length by omega))
    have hA := addS_len (s := rd S i) hm
    have hs := hS _ (rd_mem h0 (show i < S.length by omega))
    obtain ⟨K, hK⟩ := ih (addS (rd S i) v (rdL V i)) (i + 1) addS_all64 (by omega) (fun r h => by rw [hA]; exact hr r h) (by omega) (by omega)
    refine ⟨K + v.length + 2, fun k hk => ?_⟩
    obtain ⟨k, rfl⟩ : ∃ m, k = m + 1 := ⟨k - 1, by omega⟩
    have hR : ∀ k, K ≤ k → attn_Head.l1 k V (addS (rd S i) v (rdL V i)) S (S.length : Int) (wrap64 (i + 1)) = some ((accS (addS (rd S i) v (rdL V i)) (S.drop (i + 1).toNat) (V.drop (i + 1).toNat)).map outG, 0) := by
      intro k hk
      rw [wrap64_id (x := i + 1) (by omega) (by omega), hK k hk]
    have h1 := Head_l2 hs.1 hs.2 hv hm hbv hR v.length k 0 (by omega) (by omega) (by omega)
    rw [overI_zero] at h1
    simp only [attn_Head.l1]
    rw [show rd_L1 = rdL from rfl, if_pos (by omega), if_pos h0, if_pos (by omega), if_pos (by omega), h1, drop_rd (l := S) h0 (by omega), dropL_rd (l := V) h0 (by omega)]
    rfl
theorem Head_l0 {q : List Int} {K V : List (List Int)} (hq : All64 q) (hK : ∀ r ∈ K, All64 r) (hf : Fit q K V) (hqb : q.length ≤ 35184372088832) (hb : K.length ≤ 35184372088832) (d : Nat) : ∀ (i : Int), 0 ≤ i → (K.length : Int) - i = d →
    ∃ B, ∀ k, B ≤ k → attn_Head.l0 k q V (rsqrtI ((q.length : Int) * 65536)) (fillI (scoresI q K) i) K (K.length : Int) i = some (headRow q K V, 0) := by
  have hL := scoresI_len q K
  obtain ⟨f1, f2, f3, f4, f5⟩ := hf
  induction d with
  | zero =>
    intro i h0 hd
    have hS := softI_len (scoresI q K)
    obtain ⟨B, hB⟩ := Head_l1 (V := V) (S := softI (scoresI q K)) softI_mem (by omega) (by omega) _ (List.replicate q.length 0) 0 (all64_noughts _) (by simp; omega) (by simpa using f5) (by omega) (Int.sub_zero _)
    refine ⟨B + K.length + K.length + 3, fun k hk => ?_⟩
    obtain ⟨k, rfl⟩ : ∃ m, k = m + 1 := ⟨k - 1, by omega⟩
    simp only [attn_Head.l0]
    rw [if_neg (by omega), fillI_end (by omega), if_pos (by omega), if_pos (by omega), Soft_eq (by omega) (by omega)]; simp only [Option.bind_some]
    rw [Int.toNat_natCast, hB k (by omega)]
    rfl
  | succ d ih =>
    intro i h0 hd
    obtain ⟨B, hB⟩ := ih (i + 1) (by omega) (by omega)
    refine ⟨B + q.length + 2, fun k hk => ?_⟩
    obtain ⟨k, rfl⟩ : ∃ m, k = m + 1 := ⟨k - 1, by omega⟩
    have hm := f4 _ (rdL_mem h0 (show i < K.length by omega))
    have e : mulI (innerI q (rdL K i)) (rsqrtI ((q.length : Int) * 65536)) = rd (scoresI q K) i := by unfold scoresI rd; rw [List.getD_eq_getElem?_getD, List.getElem?_map, List.getElem?_eq_getElem (show i.toNat < K.length by omega)]; unfold rdL; rw [List.getD_eq_getElem?_getD, List.getElem?_eq_getElem (show i.toNat < K.length by omega)]; rfl
    simp only [attn_Head.l0]
    rw [show rd_L1 = rdL from rfl, if_pos (by omega), if_pos h0, if_pos (by omega), Inner_eq hq (hK _ (rdL_mem h0 (by omega))) (by omega) (by omega), if_pos hm.symm]; simp only [Option.bind_some]
    rw [Mul_eq]; simp only [Option.bind_some]
    rw [if_pos (by rw [fillI_len (by omega)]; omega), e, fillI_set h0 (by omega), wrap64_id (x := i + 1) (by omega) (by omega)]
    exact hB k (by omega)
theorem Head_eq {q : List Int} {K V : List (List Int)} (hq : All64 q) (hK : ∀ r ∈ K, All64 r) (hqb : q.length ≤ 35184372088832) (hb : K.length ≤ 35184372088832) : ∃ B, ∀ k, B ≤ k → attn_Head.f k q K V = some (headI q K V) := by
  by_cases c : Fit q K V
  · obtain ⟨B, hB⟩ := Head_l0 hq hK c hqb hb K.length 0 (by omega) (by omega)
    refine ⟨B + K.length + 30, fun k hk => ?_⟩
    have hL := scoresI_len q K
    have e : List.replicate ((K.length : Int)).toNat (0 : Int) = fillI (scoresI q K) 0 := by rw [fillI_zero, hL]; rfl
    unfold attn_Head.f headI
    rw [fit_eq (by omega) (by omega), Option.bind_some, if_pos (decide_eq_true c), if_pos c, wrap64_id (by omega) (by omega), Rsqrt_eq (by omega), Option.bind_some, if_pos (by omega), if_pos (by omega), e]
    exact hB k (by omega)
  · refine ⟨K.length + 2, fun k hk => ?_⟩
    unfold attn_Head.f headI
    rw [fit_eq (by omega) (by omega), Option.bind_some, if_neg (by simp [c]), if_neg c]
theorem works_eq : ∃ K, ∀ k, K ≤ k → aviarylaw15_works.f k = some true := by
  have a1 : All64 [0, 0] := by intro x hx; simp at hx; omega
  have a2 : ∀ r ∈ [([1, 2] : List Int), [3, 4]], All64 r := by
    intro r hr x hx
    simp only [List.mem_cons, List.not_mem_nil, or_false] at hr
    rcases hr with rfl | rfl <;> simp at hx <;> omega
  obtain ⟨B1, h1⟩ := Head_eq (q := [0, 0]) (K := [[1, 2], [3, 4]]) (V := [[65536, 0], [0, 65536]]) a1 a2 (by simp) (by simp)
  obtain ⟨B2, h2⟩ := Head_eq (q := []) (K := []) (V := []) (by intro x hx; simp at hx) (by simp) (by simp) (by simp)
  refine ⟨B1 + B2 + 200, fun k hk => ?_⟩
  have e1 : headI [0, 0] [[1, 2], [3, 4]] [[65536, 0], [0, 65536]] = ([32768, 32768], 0) := by decide +kernel
  have e2 : headI [] [] [] = ([], 21) := by decide +kernel
  have v1 : attn_Visible.f 5 3 = some 3 := by decide +kernel
  have v2 : attn_Visible.f 1 3 = some 0 := by decide +kernel
  unfold aviarylaw15_works.f
  rw [h1 k (by omega), h2 k (by omega), e1, e2]
  simp only [Option.bind_some]
  rw [Same_refl (by simp) (by simp; omega), v1, v2]
  rfl
theorem part_l0 {l : List (List Int)} {a n : Nat} (hb : l.length ≤ 5864062014634) (hr : ∀ r ∈ l, a + n ≤ r.length) (hab : a + n ≤ 17592186043904) (d : Nat) : ∀ (k : Nat) (i : Int), 0 ≤ i → (l.length : Int) - i = d → d < k →
    attn_All_1.l0 k a n (fillL (sls l a n) i) l l.length i = some (sls l a n) := by
  have hL := sls_len l a n
  induction d with
  | zero =>
    intro k i h0 hd hk
    obtain ⟨k, rfl⟩ : ∃ m, k = m + 1 := ⟨k - 1, by omega⟩
    simp only [attn_All_1.l0]
    rw [if_neg (by omega), fillL_end (by omega)]
  | succ d ih =>
    intro k i h0 hd hk
    obtain ⟨k, rfl⟩ : ∃ m, k = m + 1 := ⟨k - 1, by omega⟩
    have hm := hr _ (rdL_mem h0 (show i < l.length by omega))
    have e : ((rdL l i).take ((a : Int) + (n : Int)).toNat).drop (a : Int).toNat = rdL (sls l a n) i := by
      unfold sls
      rw [rdL_map (f := fun r => sl r a n) h0 (by omega)]
      unfold sl
      rw [show ((a : Int) + (n : Int)).toNat = a + n by omega, Int.toNat_natCast]
    simp only [attn_All_1.l0]
    rw [show rd_L1 = rdL from rfl, if_pos (by omega), if_pos h0, if_pos (by omega), if_pos (by omega), wrap64_id (x := (a : Int) + (n : Int)) (by omega) (by omega), if_pos (by omega), if_pos (by omega), if_pos (by rw [fillL_len (by omega)]; omega), e, fillL_set h0 (by omega), wrap64_id (x := i + 1) (by omega) (by omega)]
    exact ih k (i + 1) (by omega) (by omega) (by omega)
theorem part_eq {k : Nat} {l : List (List Int)} {a n : Nat} (hb : l.length ≤ 5864062014634) (hr : ∀ r ∈ l, a + n ≤ r.length) (hab : a + n ≤ 17592186043904) (hk : l.length < k) : attn_All_1.f k l a n = some (sls l a n) := by
  have hL := sls_len l a n
  have e : List.replicate ((l.length : Int)).toNat ([] : List Int) = fillL (sls l a n) 0 := by rw [fillL_zero, hL]; rfl
  unfold attn_All_1.f
  rw [if_pos (by omega), if_pos (by omega), e]
  exact part_l0 hb hr hab l.length k 0 (by omega) (by omega) hk
theorem All_l0 {q : List Int} {K V : List (List Int)} {n : Nat} (hq : All64 q) (hK : ∀ r ∈ K, All64 r) (hf : Fit q K V) (hn : 0 < n) (hqb : q.length ≤ 17592186043904) (hb : K.length ≤ 5864062014634) : ∀ (c m : Nat) (o : List Int), (m + c) * n = q.length → o.length = m * n →
    ∃ B, ∀ k, B ≤ k → attn_All.l0 k q K V n o ((m * n : Nat) : Int) = some (o ++ allFrom n q K V c m, 0) := by
  intro c
  induction c with
  | zero =>
    intro m o h ho
    refine ⟨1, fun k hk => ?_⟩
    obtain ⟨k, rfl⟩ : ∃ m, k = m + 1 := ⟨k - 1, by omega⟩
    simp only [attn_All.l0]
    rw [if_neg (by rw [Nat.add_zero] at h; omega)]
    simp [allFrom]
  | succ c ih =>
    intro m o h ho
    obtain ⟨gA, e3, g2⟩ := parts_arith h
    have hfit := sls_fit (a := m * n) hf hn gA
    have hlen := headRow_len hfit
    rw [sl_len gA] at hlen
    obtain ⟨B1, h1⟩ := Head_eq (q := sl q (m * n) n) (K := sls K (m * n) n) (V := sls V (m * n) n) (sl_all hq) (fun r hr => by obtain ⟨s, hs, rfl⟩ := sls_mem hr; exact sl_all (hK s hs)) (by rw [sl_len gA]; omega) (by rw [sls_len]; omega)
    obtain ⟨B2, h2⟩ := ih (m + 1) (o ++ headRow (sl q (m * n) n) (sls K (m * n) n) (sls V (m * n) n)) g2 (by rw [List.length_append, ho, hlen, e3])
    rw [e3] at h2
    have h4 : ∀ r ∈ K, m * n + n ≤ r.length := fun r hr => by rw [hf.2.2.2.1 r hr]; exact gA
    have h5 : ∀ r ∈ V, m * n + n ≤ r.length := fun r hr => by rw [hf.2.2.2.2 r hr]; exact gA
    have hKV := hf.2.2.1
    have hall : allFrom n q K V (c + 1) m = headRow (sl q (m * n) n) (sls K (m * n) n) (sls V (m * n) n) ++ allFrom n q K V c (m + 1) := rfl
    rw [hall]
    clear h e3 g2 ih hall
    generalize m * n = A at *
    refine ⟨B1 + B2 + K.length + 2, fun k hk => ?_⟩
    obtain ⟨k, rfl⟩ : ∃ m, k = m + 1 := ⟨k - 1, by omega⟩
    have h1 := h1 k (by omega)
    have h2 := h2 k (by omega)
    have p1 := part_eq (k := k) (l := K) (a := A) (n := n) hb h4 (by omega) (by omega)
    have p2 := part_eq (k := k) (l := V) (a := A) (n := n) (by omega) h5 (by omega) (by omega)
    have w1 : wrap64 ((A : Int) + (n : Int)) = ((A + n : Nat) : Int) := wrapN_add (by omega)
    have i1 : (A : Int) < (q.length : Int) := by clear w1 h1 h2 p1 p2; omega
    have i2 : (0 : Int) ≤ (A : Int) := Int.natCast_nonneg A
    have i3 : (A : Int) ≤ ((A + n : Nat) : Int) := by clear w1 h1 h2 p1 p2; omega
    have i4 : ((A + n : Nat) : Int) ≤ (q.length : Int) := by clear w1 h1 h2 p1 p2; omega
    have i5 : o.length + (headRow (sl q A n) (sls K A n) (sls V A n)).length < 17592186044416 := by clear w1 h1 h2 p1 p2; omega
    simp only [attn_All.l0]
    rw [if_pos i1, if_pos i2, w1, if_pos i3, if_pos i4, p1, Option.bind_some, p2, Option.bind_some, sl_cut, h1]
    unfold headI
    rw [if_pos hfit, Option.bind_some, if_pos i5, h2, List.append_assoc]
theorem heads_cut {L h : Nat} (hh : 0 < h) (hL : 0 < L) (hm : L % h = 0) : 0 < L / h ∧ h * (L / h) = L := by
  have e : h * (L / h) = L := by have := Nat.div_add_mod L h; omega
  refine ⟨Nat.pos_of_ne_zero (fun z => ?_), e⟩
  rw [z] at e
  omega
theorem All_eq {q : List Int} {K V : List (List Int)} {h : Int} (hq : All64 q) (hK : ∀ r ∈ K, All64 r) (hh : h ≤ 9223372036854775807) (hqb : q.length ≤ 17592186043904) (hb : K.length ≤ 5864062014634) : ∃ B, ∀ k, B ≤ k → attn_All.f k q K V h = some (allI q K V h) := by
  by_cases c : h < 1
  · refine ⟨0, fun k hk => ?_⟩
    unfold attn_All.f allI
    rw [if_pos c, if_pos c]
  · obtain ⟨m, rfl⟩ := Int.eq_ofNat_of_zero_le (show 0 ≤ h by omega)
    by_cases c2 : (q.length : Int) % (m : Int) = 0
    · have c2n : q.length % m = 0 := by exact_mod_cast c2
      by_cases c3 : Fit q K V
      · obtain ⟨hn, he⟩ := heads_cut (L := q.length) (h := m) (by omega) (by have := c3.1; omega) c2n
        obtain ⟨B, hB⟩ := All_l0 (n := q.length / m) hq hK c3 hn hqb hb m 0 [] (by rw [Nat.zero_add]; exact he) (by simp)
        refine ⟨B + K.length + 5, fun k hk => ?_⟩
        unfold attn_All.f allI
        rw [if_neg c, if_neg (by omega), if_pos c2, fit_eq (by omega) (by omega), if_neg c, if_neg (by simp [c2, c3])]
        simp only [Option.bind_some, decide_eq_true c3, Bool.not_true]
        obtain ⟨k, rfl⟩ : ∃ m, k = m + 1 := ⟨k - 1, by omega⟩
        simp only [attn_All.j0]
        have hw : wrap64 ((q.length : Int) / (m : Int)) = ((q.length / m : Nat) : Int) := by
          rw [← Int.natCast_ediv, wrap64_id (by omega) (by have := Nat.div_le_self q.length m; omega)]
        rw [if_neg (by simp), if_neg (by omega), hw, Int.toNat_natCast]
        have h2 := hB k (by omega)
        rw [Nat.zero_mul, List.nil_append] at h2
        exact h2
      · refine ⟨K.length + 5, fun k hk => ?_⟩
        unfold attn_All.f allI
        rw [if_neg c, if_neg (by omega), if_pos c2, fit_eq (by omega) (by omega), if_neg c, if_pos (Or.inr c3)]
        simp only [Option.bind_some, decide_eq_false c3, Bool.not_false]
        obtain ⟨k, rfl⟩ : ∃ m, k = m + 1 := ⟨k - 1, by omega⟩
        simp [attn_All.j0]
    · refine ⟨1, fun k hk => ?_⟩
      unfold attn_All.f allI
      rw [if_neg c, if_neg (by omega), if_neg c2, if_neg c, if_pos (Or.inl c2)]
      obtain ⟨k, rfl⟩ : ∃ m, k = m + 1 := ⟨k - 1, by omega⟩
      simp [attn_All.j0]
theorem one_l0 {v : List Int} (hb : v.length ≤ 4611686018427387904) (d : Nat) : ∀ (k : Nat) (i : Int), 0 ≤ i → (v.length : Int) - i = d → d < k →
    aviarylaw15_AttnOne.l0 k v (v.map clampI) i = some true := by
  have hl : (v.map clampI).length = v.length := List.length_map ..
  induction d with
  | zero =>
    intro k i h0 hd hk
    obtain ⟨k, rfl⟩ : ∃ m, k = m + 1 := ⟨k - 1, by omega⟩
    simp only [aviarylaw15_AttnOne.l0]
    rw [if_neg (by omega)]
  | succ d ih =>
    intro k i h0 hd hk
    obtain ⟨k, rfl⟩ : ∃ m, k = m + 1 := ⟨k - 1, by omega⟩
    simp only [aviarylaw15_AttnOne.l0]
    rw [if_pos (by omega), if_pos h0, if_pos (by omega), rClamp_eq]
    simp only [Option.bind_some]
    rw [rd_map h0 (by omega), if_pos rfl, wrap64_id (x := i + 1) (by omega) (by omega)]
    exact ih k (i + 1) (by omega) (by omega) (by omega)
theorem AttnOne : aviarylaw15_AttnOne.Pure := by
  intro q key v h hqm hqb hq hkm hkb hk hvm hvb hv hh
  have hh := wf64 hh
  have aq := all64 hq
  have ak := all64 hk
  obtain ⟨B1, h1⟩ := works_eq
  have skip : ∀ k, 0 < k → aviarylaw15_AttnOne.j0 k q key v h true = some true := by
    intro k hk
    obtain ⟨k, rfl⟩ : ∃ m, k = m + 1 := ⟨k - 1, by omega⟩
    simp [aviarylaw15_AttnOne.j0]
  by_cases c0 : q.length = 0
  · refine ⟨B1 + 1, ?_⟩
    unfold aviarylaw15_AttnOne.f
    rw [h1 _ (by omega), Option.bind_some, if_pos rfl, if_pos (by omega)]
    exact skip _ (by omega)
  by_cases c1 : q.length = key.length
  rotate_left
  · refine ⟨B1 + 1, ?_⟩
    unfold aviarylaw15_AttnOne.f
    rw [h1 _ (by omega), Option.bind_some, if_pos rfl, if_neg (by omega), if_neg (by omega)]
    exact skip _ (by omega)
  by_cases c2 : q.length = v.length
  rotate_left
  · refine ⟨B1 + 1, ?_⟩
    unfold aviarylaw15_AttnOne.f
    rw [h1 _ (by omega), Option.bind_some, if_pos rfl, if_neg (by omega), if_pos (by omega), if_neg (by omega)]
    exact skip _ (by omega)
  by_cases c3 : h < 1
  · refine ⟨B1 + 1, ?_⟩
    unfold aviarylaw15_AttnOne.f
    rw [h1 _ (by omega), Option.bind_some, if_pos rfl, if_neg (by omega), if_pos (by omega), if_pos (by omega), if_pos c3]
    exact skip _ (by omega)
  by_cases c4 : (q.length : Int) % h = 0
  rotate_left
  · refine ⟨B1 + 1, ?_⟩
    unfold aviarylaw15_AttnOne.f
    rw [h1 _ (by omega), Option.bind_some, if_pos rfl, if_neg (by omega), if_pos (by omega), if_pos (by omega), if_neg c3, if_neg (by omega), show ((q.length : Int) % h != 0) = true from bne_iff_ne.2 c4]
    exact skip _ (by omega)
  have hf : Fit q [key] [v] := ⟨c0, by simp, rfl, by intro r hr; simp at hr; rw [hr]; exact c1.symm, by intro r hr; simp at hr; rw [hr]; exact c2.symm⟩
  obtain ⟨B2, h2⟩ := All_eq (q := q) (K := [key]) (V := [v]) (h := h) aq (by intro r hr; simp at hr; rw [hr]; exact ak) hh.2 (by omega) (by simp)
  have hall : allI q [key] [v] h = (v.map clampI, 0) := by
    obtain ⟨m, rfl⟩ := Int.eq_ofNat_of_zero_le (show 0 ≤ h by omega)
    have c4n : q.length % m = 0 := by exact_mod_cast c4
    obtain ⟨hn, he⟩ := heads_cut (L := q.length) (h := m) (by omega) (by omega) c4n
    unfold allI
    rw [if_neg c3, if_neg (by simp [c4, hf]), Int.toNat_natCast, allFrom_one hf hn m 0 (by rw [Nat.zero_add, he]; exact Nat.le_refl _)]
    unfold sl
    rw [Nat.zero_mul, Nat.zero_add, he, List.drop_zero, List.take_of_length_le (by omega)]
  have hl : (v.map clampI).length = v.length := List.length_map ..
  refine ⟨B1 + B2 + v.length + 5, ?_⟩
  unfold aviarylaw15_AttnOne.f
  rw [h1 _ (by omega), Option.bind_some, if_pos rfl, if_neg (by omega), if_pos (by omega), if_pos (by omega), if_neg c3, if_neg (by omega), show ((q.length : Int) % h != 0) = false by rw [bne_eq_false_iff_eq]; exact c4]
  obtain ⟨k, hk⟩ : ∃ k, B1 + B2 + v.length + 5 = k + 1 := ⟨_, rfl⟩
  rw [hk]
  simp only [aviarylaw15_AttnOne.j0]
  rw [if_neg (by simp), h2 k (by omega), hall]
  simp only [Option.bind_some]
  rw [if_pos trivial, hl, show ((v.length : Int) != (q.length : Int)) = false by rw [bne_eq_false_iff_eq]; omega]
  obtain ⟨k, rfl⟩ : ∃ m, k = m + 1 := ⟨k - 1, by omega⟩
  simp only [aviarylaw15_AttnOne.j1]
  rw [if_neg (by simp)]
  exact one_l0 (by omega) v.length k 0 (by omega) (by omega) (by omega)

end Go.Proofs.Ytbnbhdlgehoaaaa.Pure
