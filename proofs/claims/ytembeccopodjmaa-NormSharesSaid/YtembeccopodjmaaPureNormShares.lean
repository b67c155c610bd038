/- Soft of the program equals that of the reference, and the row stays: for any row. No condition. -/
import Derived.Test.YtembeccopodjmaaPNormSharesx2
import Derived.Test.YtembeccopodjmaaMSat
import Derived.Test.YtembeccopodjmaaMCurve
import Derived.Test.YtembeccopodjmaaMVec
import Derived.Test.YtembeccopodjmaaMNorm
set_option linter.unusedVariables false
set_option linter.unusedSimpArgs false
namespace Go.Proofs.Ytembeccopodjmaa.Pure
open Go Go.RowKit Go.Proofs.Ytembeccopodjmaa.PNormShares Go.Proofs.YtembeccopodjmaaW.PrintWords Go.Proofs.YtembeccopodjmaaW.PrintLast Go.Proofs.Ytembeccopodjmaa.Mth
theorem Clamp_eq (x : Int) : sat_Clamp.f x = some (clampI x) := by unfold sat_Clamp.f; rw [clamp_f1]
theorem rClamp_eq (x : Int) : aviaryref01_Clamp.f x = some (clampI x) := by unfold aviaryref01_Clamp.f; rw [clamp_f2]
theorem Shift_eq {x : Int} (hx : -9223372036854775808 ≤ x ∧ x ≤ 9223372036854775807) (n : Int) : sat_Shift.f x n = some (shiftI x n) := by
  unfold sat_Shift.f shiftI
  have hm : mx (mn n 62) 0 = (nclampI n : Int) := by unfold mx mn nclampI; (repeat' split) <;> omega
  have hm2 : nclampI n ≤ 62 := by unfold nclampI; split <;> omega
  rw [hm]
  generalize nclampI n = m at *
  cases m with
  | zero => rfl
  | succ m =>
    rw [if_neg (by omega), if_pos (by omega)]
    have e1 : ((m + 1 : Nat) : Int).toNat = m + 1 := by omega
    have e2 : (((m + 1 : Nat) : Int) - 1).toNat = m := by omega
    rw [e1, e2]
    have hp := pow2_pos m
    have hP := pow2_succ m
    have hl := pow2_le62 hm2
    rw [wrap64_id (x := 2 ^ (m + 1)) (by omega) (by omega), wrap64_id (x := 2 ^ (m + 1) - 1) (by omega) (by omega), wrap64_id (x := 2 ^ m) (by omega) (by omega), bits_mask64 x (m + 1) hm2]
    have hr := Int.emod_nonneg x (show (2 : Int) ^ (m + 1) ≠ 0 by omega)
    have hr2 := Int.emod_lt_of_pos x (pow2_pos (m + 1))
    have hq := Int.mul_ediv_add_emod x (2 ^ (m + 1))
    have hqb : -9223372036854775808 ≤ x / 2 ^ (m + 1) + 1 ∧ x / 2 ^ (m + 1) + 1 ≤ 9223372036854775807 := by
      have h1 : x / 2 ^ (m + 1) ≤ 4611686018427387904 := by
        have := Int.ediv_le_ediv (c := 2 ^ (m + 1)) (by omega) hx.2
        have h3 : 9223372036854775807 / (2 : Int) ^ (m + 1) ≤ 4611686018427387904 := by
          have := Int.ediv_lt_of_lt_mul (a := 9223372036854775807) (b := 4611686018427387905) (c := 2 ^ (m + 1)) (by omega) (by omega)
          omega
        omega
      have h2 : -9223372036854775808 ≤ x / 2 ^ (m + 1) := by
        refine Int.le_ediv_of_mul_le (by omega) ?_
        omega
      omega
    rw [wrap64_id hqb.1 hqb.2]
    have key := rdivI_floor x m
    by_cases c : x % 2 ^ (m + 1) > 2 ^ m
    · rw [if_pos c, key, if_pos (Or.inl c)]
    · rw [if_neg c]
      by_cases d : x % 2 ^ (m + 1) = 2 ^ m
      · rw [if_pos d]
        by_cases e : x > 0
        · rw [if_pos e, key, if_pos (Or.inr ⟨d, e⟩)]
        · rw [if_neg e, key, if_neg (by omega)]
      · rw [if_neg d, key, if_neg (by omega)]
theorem rShift_eq {k : Nat} (hk : 0 < k) {x : Int} (hx : -9223372036854775808 ≤ x ∧ x ≤ 9223372036854775807) (n : Int) : aviaryref01_Shift.f k x n = some (shiftI x n) := by
  obtain ⟨k, rfl⟩ : ∃ m, k = m + 1 := ⟨k - 1, by omega⟩
  unfold aviaryref01_Shift.f shiftI
  have hm : mn 62 (mx 0 n) = (nclampI n : Int) := by unfold mx mn nclampI; (repeat' split) <;> omega
  have hm2 : nclampI n ≤ 62 := by unfold nclampI; split <;> omega
  rw [hm]
  generalize nclampI n = m at *
  cases m with
  | zero => rfl
  | succ m =>
    have hp := pow2_pos m
    have hP := pow2_succ m
    have hl := pow2_le62 hm2
    have e1 : wrap64 (((m + 1 : Nat) : Int) - 1) = (m : Int) := by unfold wrap64; omega
    have e2 : ∀ y : Int, shr .u64 y ((m + 1 : Nat) : Int) = y / 2 ^ (m + 1) := fun y => by unfold shr; rw [show min (((m + 1 : Nat) : Int).toNat) IntKind.u64.bits = m + 1 by simp [IntKind.bits]; omega]
    have e3 : ∀ y : Int, shr .u64 y (m : Int) = y / 2 ^ m := fun y => by unfold shr; rw [show min ((m : Int).toNat) IntKind.u64.bits = m by simp [IntKind.bits]; omega]
    have key : ∀ y : Int, 0 ≤ y → y ≤ 9223372036854775808 → 0 ≤ y / 2 ^ (m + 1) ∧ y / 2 ^ (m + 1) ≤ 4611686018427387904 := by
      intro y h0 h1
      refine ⟨Int.ediv_nonneg h0 (by omega), ?_⟩
      have := Int.ediv_lt_of_lt_mul (a := y) (b := 4611686018427387905) (c := 2 ^ (m + 1)) (by omega) (by omega)
      omega
    rw [if_neg (by omega)]
    by_cases c : x < 0
    · have e4 : IntKind.u64.wrap (IntKind.u64.wrap (wrap64 (-wrap64 (x + 1))) + 1) = -x := by rw [wrapu64, wrapu64]; unfold wrap64; omega
      rw [if_pos c, e4]
      simp only [aviaryref01_Shift.j0]
      rw [if_pos (by omega), e1, if_pos (by omega), e2, e3, if_pos c, if_pos c, wrapu64]
      have hk := key (-x) (by omega) (by omega)
      have hr := rdivI_half (-x) m (by omega)
      have hh := Int.tmod_eq_emod_of_nonneg (a := -x / 2 ^ m) (b := 2) (Int.ediv_nonneg (by omega) (by omega))
      rw [hh]
      have hx2 : rdivI x (m + 1) = - rdivI (-x) (m + 1) := by rw [rdivI_neg]; omega
      rw [hx2, hr]
      by_cases d : -x / 2 ^ m % 2 = 1
      · rw [if_pos d, if_pos d]; congr 1; unfold wrap64; omega
      · rw [if_neg d, if_neg d]; congr 1; unfold wrap64; omega
    · have e4 : IntKind.u64.wrap x = x := by rw [wrapu64]; omega
      rw [if_neg c, e4]
      simp only [aviaryref01_Shift.j0]
      rw [if_pos (by omega), e1, if_pos (by omega), e2, e3, if_neg c, if_neg c, wrapu64]
      have hk := key x (by omega) (by omega)
      have hr := rdivI_half x m (by omega)
      have hh := Int.tmod_eq_emod_of_nonneg (a := x / 2 ^ m) (b := 2) (Int.ediv_nonneg (by omega) (by omega))
      rw [hh, hr]
      by_cases d : x / 2 ^ m % 2 = 1
      · rw [if_pos d, if_pos d]; congr 1; unfold wrap64; omega
      · rw [if_neg d, if_neg d]; congr 1; unfold wrap64; omega
theorem Mul_eq (a b : Int) : sat_Mul.f a b = some (mulI a b) := by
  unfold sat_Mul.f mulI
  have h := clamp_prod a b
  rw [Clamp_eq, Clamp_eq]; simp only [Option.bind_some]
  rw [wrap64_id (by omega) (by omega), Shift_eq ⟨by omega, by omega⟩]; simp only [Option.bind_some]
  rw [Clamp_eq]; rfl
theorem rMul_eq {k : Nat} (hk : 0 < k) (a b : Int) : aviaryref01_Mul.f k a b = some (mulI a b) := by
  unfold aviaryref01_Mul.f mulI
  have h := clamp_prod a b
  rw [rClamp_eq, rClamp_eq]; simp only [Option.bind_some]
  rw [wrap64_id (by omega) (by omega), rShift_eq hk ⟨by omega, by omega⟩]; simp only [Option.bind_some]
  rw [rClamp_eq]; rfl
theorem Div_eq (a b : Int) : sat_Div.f a b = some (divI a b) := by
  unfold sat_Div.f divI
  have ha := clampI_range a
  have hb := clampI_range b
  rw [Clamp_eq, Clamp_eq]; simp only [Option.bind_some]
  by_cases c : clampI b = 0
  · rw [if_pos c, if_pos c]; (repeat' split) <;> rfl
  · rw [if_neg c, if_neg c]
    have h := tdiv_range (a := clampI a * 65536) (b := clampI b) (B := 140737488355328) (by omega) (by omega)
    rw [wrap64_id (x := clampI a * 65536) (by omega) (by omega), wrap64_id (by omega) (by omega), Clamp_eq]; rfl
theorem rDiv_eq (a b : Int) : aviaryref01_Div.f a b = some (divI a b) := by
  unfold aviaryref01_Div.f divI
  have ha := clampI_range a
  have hb := clampI_range b
  rw [rClamp_eq, rClamp_eq]; simp only [Option.bind_some]
  by_cases c : clampI b = 0
  · rw [if_pos c, if_pos c]; (repeat' split) <;> rfl
  · rw [if_neg c, if_neg c]
    have h := tdiv_range (a := clampI a * 65536) (b := clampI b) (B := 140737488355328) (by omega) (by omega)
    rw [wrap64_id (x := clampI a * 65536) (by omega) (by omega), wrap64_id (by omega) (by omega), rClamp_eq]; rfl

theorem powers_eq {i : Int} (h0 : 0 ≤ i) (h1 : i < 17) : curve_powers.f i = some (rd powT i) := by
  unfold curve_powers.f; rw [if_pos h0, if_pos h1]; rfl
theorem Exp_eq (x : Int) : curve_Exp.f x = some (expI x) := by
  unfold curve_Exp.f
  have hm : mn x 0 = if 0 < x then 0 else x := rfl
  have ht := exptI_range x
  have e1 : mulI (if 0 < x then 0 else x) 94548 = - exptI x := by unfold exptI; omega
  rw [hm, Mul_eq, e1]; simp only [Option.bind_some]
  unfold expI
  generalize exptI x = t at *
  have e2 : wrap64 (-(-t)) = t := by rw [Int.neg_neg]; exact wrap64_id (by omega) (by omega)
  have e3 : Go.bits .and .i64 t 65535 = t % 65536 := bits_mask64 t 16 (by decide)
  have e4 : Go.bits .and .i64 (t % 65536) 4095 = t % 65536 % 4096 := bits_mask64 (t % 65536) 12 (by decide)
  rw [e2, e3, e4]
  unfold expTI
  by_cases c : t / 65536 > 16
  · rw [if_pos c, if_pos c]
  · rw [if_neg c, if_neg c]
    have hf : 0 ≤ t % 65536 ∧ t % 65536 < 65536 := by omega
    rw [wrap64_id (x := t % 65536 / 4096 + 1) (by omega) (by omega), powers_eq (by omega) (by omega), powers_eq (by omega) (by omega)]
    simp only [Option.bind_some]
    rw [if_pos (by omega)]
    have hp := pow_at hf.1 hf.2
    have hv := powv_bound hf.1 hf.2
    unfold powv at hv ⊢
    generalize rd powT (t % 65536 / 4096) = a at *
    generalize rd powT (t % 65536 / 4096 + 1) = b at *
    have hg : 0 ≤ t % 65536 % 4096 ∧ t % 65536 % 4096 ≤ 4096 := by omega
    have h2 : 0 ≤ (a - b) * (t % 65536 % 4096) := Int.mul_nonneg (by omega) hg.1
    have h3 : (a - b) * (t % 65536 % 4096) ≤ (a - b) * 4096 := Int.mul_le_mul_of_nonneg_left hg.2 (by omega)
    rw [wrap64_id (x := a - b) (by omega) (by omega)]
    generalize (a - b) * (t % 65536 % 4096) = p at *
    rw [wrap64_id (x := p) (by omega) (by omega), wrap64_id (x := a - p / 4096) (by omega) (by omega)]
    unfold shr
    rw [show min ((t / 65536).toNat) IntKind.i64.bits = (t / 65536).toNat by simp [IntKind.bits]; omega]
theorem rExp_eq {k : Nat} (hk : 0 < k) (x : Int) : aviaryref03_Exp.f k x = some (expI x) := by
  unfold aviaryref03_Exp.f
  have hm : mn 0 x = if 0 < x then 0 else x := by unfold mn; (repeat' split) <;> omega
  have ht := exptI_range x
  have e1 : mulI (if 0 < x then 0 else x) 94548 = - exptI x := by unfold exptI; omega
  simp only [Option.bind_some]
  rw [hm, rMul_eq hk, e1]; simp only [Option.bind_some]
  unfold expI
  generalize exptI x = t at *
  have e2 : wrap64 (-(-t)) = t := by rw [Int.neg_neg]; exact wrap64_id (by omega) (by omega)
  have e3 : Int.tmod t 65536 = t % 65536 := Int.tmod_eq_emod_of_nonneg (by omega)
  have e4 : Int.tmod (t % 65536) 4096 = t % 65536 % 4096 := Int.tmod_eq_emod_of_nonneg (by omega)
  have e5 : wrap64 (Int.tdiv (t % 65536) 4096) = t % 65536 / 4096 := by rw [Int.tdiv_eq_ediv_of_nonneg (by omega)]; exact wrap64_id (by omega) (by omega)
  have e6 : wrap64 (Int.tdiv t 65536) = t / 65536 := by rw [Int.tdiv_eq_ediv_of_nonneg (by omega)]; exact wrap64_id (by omega) (by omega)
  have e7 : wrap64 (t % 65536 / 4096 + 1) = t % 65536 / 4096 + 1 := wrap64_id (by omega) (by omega)
  have hl : (([65536, 62757, 60097, 57549, 55109, 52773, 50535, 48393, 46341, 44376, 42495, 40693, 38968, 37316, 35734, 34219, 32768] : List Int).length : Int) = 17 := rfl
  rw [e2, e3, e4, e5, e6, e7, hl, if_pos (by omega), if_pos (by omega), if_pos (by omega), if_pos (by omega)]
  unfold expTI
  by_cases c : t / 65536 > 16
  · rw [if_pos c, if_pos c]
  · rw [if_neg c, if_neg c]
    have hf : 0 ≤ t % 65536 ∧ t % 65536 < 65536 := by omega
    rw [if_pos (by omega)]
    have hp := pow_at hf.1 hf.2
    have hv := powv_bound hf.1 hf.2
    unfold powv at hv ⊢
    unfold powT at hp hv ⊢
    generalize rd _ (t % 65536 / 4096) = a at *
    generalize rd _ (t % 65536 / 4096 + 1) = b at *
    have hg : 0 ≤ t % 65536 % 4096 ∧ t % 65536 % 4096 ≤ 4096 := by omega
    have h2 : 0 ≤ (a - b) * (t % 65536 % 4096) := Int.mul_nonneg (by omega) hg.1
    have h3 : (a - b) * (t % 65536 % 4096) ≤ (a - b) * 4096 := Int.mul_le_mul_of_nonneg_left hg.2 (by omega)
    rw [wrap64_id (x := a - b) (by omega) (by omega)]
    generalize (a - b) * (t % 65536 % 4096) = p at *
    have e8 : wrap64 (Int.tdiv p 4096) = p / 4096 := by rw [Int.tdiv_eq_ediv_of_nonneg (by omega)]; exact wrap64_id (by omega) (by omega)
    rw [wrap64_id (x := p) (by omega) (by omega), e8, wrap64_id (x := a - p / 4096) (by omega) (by omega)]
    unfold shr
    rw [show min ((t / 65536).toNat) IntKind.i64.bits = (t / 65536).toNat by simp [IntKind.bits]; omega]
theorem Same_l0 {a b : List Int} (hl : a.length = b.length) (hb : a.length ≤ 4611686018427387904) (d : Nat) : ∀ (k : Nat) (i : Int), 0 ≤ i → (a.length : Int) - i = d → d < k →
    aviaryref04_Same.l0 k a b i = some (decide (a.drop i.toNat = b.drop i.toNat)) := by
  induction d with
  | zero =>
    intro k i h0 hd hk
    obtain ⟨k, rfl⟩ : ∃ m, k = m + 1 := ⟨k - 1, by omega⟩
    simp only [aviaryref04_Same.l0]
    rw [if_neg (by omega), drop_len (by omega), drop_len (by omega)]
    simp
  | succ d ih =>
    intro k i h0 hd hk
    obtain ⟨k, rfl⟩ : ∃ m, k = m + 1 := ⟨k - 1, by omega⟩
    simp only [aviaryref04_Same.l0]
    rw [if_pos (by omega), if_pos h0, if_pos (by omega), drop_rd (l := a) h0 (by omega), drop_rd (l := b) h0 (by omega)]
    by_cases c : rd a i = rd b i
    · rw [if_pos c, wrap64_id (x := i + 1) (by omega) (by omega), ih k (i + 1) (by omega) (by omega) (by omega), c]
      simp
    · rw [if_neg c]
      simp [c]
theorem Same_eq {k : Nat} {a b : List Int} (hb : a.length ≤ 4611686018427387904) (hk : a.length < k) : aviaryref04_Same.f k a b = some (decide (a = b)) := by
  unfold aviaryref04_Same.f
  by_cases c : a.length = b.length
  · rw [if_pos (by omega), Same_l0 c hb a.length k 0 (by omega) (by omega) hk]
    rfl
  · rw [if_neg (by omega)]
    have : a ≠ b := fun h => c (by rw [h])
    simp [this]
theorem Same_refl {k : Nat} {a : List Int} (hb : a.length ≤ 4611686018427387904) (hk : a.length < k) : aviaryref04_Same.f k a a = some true := by rw [Same_eq hb hk]; simp
theorem Max_l0 {x : List Int} (hb : x.length ≤ 4611686018427387904) (d : Nat) : ∀ (k : Nat) (m i : Int), 0 ≤ i → (x.length : Int) - i = d → d < k →
    slices_Max_int64_int64.l0 k x m i = some (maxI m (x.drop i.toNat)) := by
  induction d with
  | zero =>
    intro k m i h0 hd hk
    obtain ⟨k, rfl⟩ : ∃ m, k = m + 1 := ⟨k - 1, by omega⟩
    simp only [slices_Max_int64_int64.l0]
    rw [if_neg (by omega), drop_len (by omega)]
    rfl
  | succ d ih =>
    intro k m i h0 hd hk
    obtain ⟨k, rfl⟩ : ∃ m, k = m + 1 := ⟨k - 1, by omega⟩
    simp only [slices_Max_int64_int64.l0]
    rw [if_pos (by omega), if_pos h0, wrap64_id (x := i + 1) (by omega) (by omega), ih k _ (i + 1) (by omega) (by omega) (by omega), drop_rd (l := x) h0 (by omega)]
    rfl
theorem Max_eq {k : Nat} {x : List Int} (hb : x.length ≤ 4611686018427387904) (hn : 0 < x.length) (hk : x.length < k) : slices_Max_int64_int64.f k x = some (maxI (rd x 0) (x.drop 1)) := by
  unfold slices_Max_int64_int64.f
  rw [if_neg (by omega), if_pos (by omega), Max_l0 hb (x.length - 1) k _ 1 (by omega) (by omega) (by omega)]
  rfl
theorem Soft_l1 {E : List Int} (s : Int) (hb : E.length ≤ 4611686018427387904) (d : Nat) : ∀ (k : Nat) (i : Int), 0 ≤ i → (E.length : Int) - i = d → d < k →
    norm_Soft.l1 k (overI (E.map fun e => divI e s) E i) s (E.length : Int) i = some (E.map fun e => divI e s) := by
  have hL : (E.map fun e => divI e s).length = E.length := by simp
  induction d with
  | zero =>
    intro k i h0 hd hk
    obtain ⟨k, rfl⟩ : ∃ m, k = m + 1 := ⟨k - 1, by omega⟩
    simp only [norm_Soft.l1]
    rw [if_neg (by omega), overI_end hL (by omega)]
  | succ d ih =>
    intro k i h0 hd hk
    obtain ⟨k, rfl⟩ : ∃ m, k = m + 1 := ⟨k - 1, by omega⟩
    simp only [norm_Soft.l1]
    rw [if_pos (by omega), if_pos h0, if_pos (by rw [overI_len hL]; omega), overI_rd hL h0 (by omega), Div_eq]; simp only [Option.bind_some]
    have e : divI (rd E i) s = rd (E.map fun e => divI e s) i := by rw [rd_map h0 (by omega)]
    rw [e, overI_set hL h0 (by omega), wrap64_id (x := i + 1) (by omega) (by omega)]
    exact ih k (i + 1) (by omega) (by omega) (by omega)
theorem Soft_l0 {x : List Int} (t : Int) (ht0 : -2147483648 ≤ t) (ht1 : t ≤ 2147483647) (hb : x.length ≤ 35184372088832) (d : Nat) : ∀ (k : Nat) (i : Int), 0 ≤ i → (x.length : Int) - i = d → d + x.length + 1 < k →
    norm_Soft.l0 k x t (fillI (expsI t x) i) ((expsI t x).take i.toNat).sum (x.length : Int) i = some ((expsI t x).map fun e => divI e (expsI t x).sum) := by
  have hL := expsI_len t x
  induction d with
  | zero =>
    intro k i h0 hd hk
    obtain ⟨k, rfl⟩ : ∃ m, k = m + 1 := ⟨k - 1, by omega⟩
    simp only [norm_Soft.l0]
    rw [if_neg (by omega), fillI_end (by omega), take_len (by omega)]
    have := Soft_l1 (E := expsI t x) (expsI t x).sum (by omega) x.length k 0 (by omega) (by omega) (by omega)
    rw [overI_zero, hL] at this
    exact this
  | succ d ih =>
    intro k i h0 hd hk
    obtain ⟨k, rfl⟩ : ∃ m, k = m + 1 := ⟨k - 1, by omega⟩
    have hc := clampI_range (rd x i)
    have hs := expsI_sum t x (i + 1).toNat
    simp only [norm_Soft.l0]
    rw [if_pos (by omega), if_pos h0, if_pos (by omega), Clamp_eq]; simp only [Option.bind_some]
    rw [wrap64_id (x := clampI (rd x i) - t) (by omega) (by omega), Exp_eq]; simp only [Option.bind_some]
    have e : expI (clampI (rd x i) - t) = rd (expsI t x) i := by unfold expsI; rw [rd_map h0 (by omega)]
    rw [if_pos (by rw [fillI_len (by omega)]; omega), e, fillI_set h0 (by omega), fillI_rd h0 (by omega), ← take_sum h0 (by omega), wrap64_id (x := i + 1) (by omega) (by omega), wrap64_id (x := ((expsI t x).take (i + 1).toNat).sum) (by omega) (by omega)]
    exact ih k (i + 1) (by omega) (by omega) (by omega)
theorem Soft_eq {k : Nat} {x : List Int} (hb : x.length ≤ 35184372088832) (hk : x.length + x.length + 1 < k) : norm_Soft.f k x = some (softI x) := by
  unfold norm_Soft.f
  by_cases c : x.length = 0
  · rw [if_pos (by omega)]
    have : x = [] := List.eq_nil_of_length_eq_zero c
    subst this
    rfl
  · rw [if_neg (by omega), Max_eq (by omega) (by omega) (by omega)]; simp only [Option.bind_some]
    rw [Clamp_eq]; simp only [Option.bind_some]
    have hL := expsI_len (topI x) x
    have e : List.replicate ((x.length : Int)).toNat (0 : Int) = fillI (expsI (topI x) x) 0 := by rw [fillI_zero, hL]; rfl
    rw [if_pos (by omega), if_pos (by omega), e]
    have hr := topI_range x
    exact Soft_l0 (topI x) hr.1 hr.2 hb x.length k 0 (by omega) (by omega) hk
theorem rSoft_l2 {x E : List Int} (s : Int) (hl : E.length = x.length) (hb : E.length ≤ 17592186044416) (d : Nat) : ∀ (k : Nat) (i : Int), 0 ≤ i → (x.length : Int) - i = d → d < k →
    aviaryref05_Soft.l2 k x s E ((E.map fun e => divI e s).take i.toNat) i = some (E.map fun e => divI e s) := by
  have hL : (E.map fun e => divI e s).length = E.length := by simp
  induction d with
  | zero =>
    intro k i h0 hd hk
    obtain ⟨k, rfl⟩ : ∃ m, k = m + 1 := ⟨k - 1, by omega⟩
    simp only [aviaryref05_Soft.l2]
    rw [if_neg (by omega), take_len (by omega)]
  | succ d ih =>
    intro k i h0 hd hk
    obtain ⟨k, rfl⟩ : ∃ m, k = m + 1 := ⟨k - 1, by omega⟩
    simp only [aviaryref05_Soft.l2]
    rw [if_pos (by omega), if_pos h0, if_pos (by omega), rDiv_eq]; simp only [Option.bind_some]
    have e : divI (rd E i) s = rd (E.map fun e => divI e s) i := by rw [rd_map h0 (by omega)]
    rw [if_pos (by rw [List.length_take]; omega), e, take_rd h0 (by omega), wrap64_id (x := i + 1) (by omega) (by omega)]
    exact ih k (i + 1) (by omega) (by omega) (by omega)
theorem rSoft_l1 {x : List Int} (t : Int) (ht0 : -4611686018427387904 ≤ t) (ht1 : t ≤ 2147483647) (hb : x.length ≤ 17592186044416) (d : Nat) : ∀ (k : Nat) (i : Int), 0 ≤ i → (x.length : Int) - i = d → d + x.length + 1 < k →
    aviaryref05_Soft.l1 k x t ((expsI t x).take i.toNat).sum ((expsI t x).take i.toNat) i = some ((expsI t x).map fun e => divI e (expsI t x).sum) := by
  have hL := expsI_len t x
  induction d with
  | zero =>
    intro k i h0 hd hk
    obtain ⟨k, rfl⟩ : ∃ m, k = m + 1 := ⟨k - 1, by omega⟩
    simp only [aviaryref05_Soft.l1]
    rw [if_neg (by omega), take_len (by omega)]
    exact rSoft_l2 (E := expsI t x) (expsI t x).sum hL (by omega) x.length k 0 (by omega) (by omega) (by omega)
  | succ d ih =>
    intro k i h0 hd hk
    obtain ⟨k, rfl⟩ : ∃ m, k = m + 1 := ⟨k - 1, by omega⟩
    have hc := clampI_range (rd x i)
    have hs := expsI_sum t x (i + 1).toNat
    simp only [aviaryref05_Soft.l1]
    rw [if_pos (by omega), if_pos h0, rClamp_eq]; simp only [Option.bind_some]
    rw [wrap64_id (x := clampI (rd x i) - t) (by omega) (by omega), rExp_eq (by omega)]; simp only [Option.bind_some]
    have e : expI (clampI (rd x i) - t) = rd (expsI t x) i := by unfold expsI; rw [rd_map h0 (by omega)]
    rw [if_pos (by rw [List.length_take]; omega), e, ← take_sum h0 (by omega), take_rd h0 (by omega), wrap64_id (x := i + 1) (by omega) (by omega), wrap64_id (x := ((expsI t x).take (i + 1).toNat).sum) (by omega) (by omega)]
    exact ih k (i + 1) (by omega) (by omega) (by omega)
theorem rSoft_l0 {x : List Int} (hb : x.length ≤ 17592186044416) (d : Nat) : ∀ (k : Nat) (m i : Int), 0 ≤ i → (x.length : Int) - i = d → d + x.length + x.length + 2 < k → -4611686018427387904 ≤ m → m ≤ 2147483647 →
    aviaryref05_Soft.l0 k x m i = some ((expsI (maxC m (x.drop i.toNat)) x).map fun e => divI e (expsI (maxC m (x.drop i.toNat)) x).sum) := by
  induction d with
  | zero =>
    intro k m i h0 hd hk hm0 hm1
    obtain ⟨k, rfl⟩ : ∃ m, k = m + 1 := ⟨k - 1, by omega⟩
    simp only [aviaryref05_Soft.l0]
    rw [if_neg (by omega), drop_len (by omega)]
    exact rSoft_l1 m hm0 hm1 hb x.length k 0 (by omega) (by omega) (by omega)
  | succ d ih =>
    intro k m i h0 hd hk hm0 hm1
    obtain ⟨k, rfl⟩ : ∃ m, k = m + 1 := ⟨k - 1, by omega⟩
    have hc := clampI_range (rd x i)
    have hm : -4611686018427387904 ≤ mx m (clampI (rd x i)) ∧ mx m (clampI (rd x i)) ≤ 2147483647 := by unfold mx; split <;> omega
    simp only [aviaryref05_Soft.l0]
    rw [if_pos (by omega), if_pos h0, rClamp_eq]; simp only [Option.bind_some]
    rw [wrap64_id (x := i + 1) (by omega) (by omega), ih k _ (i + 1) (by omega) (by omega) (by omega) hm.1 hm.2, drop_rd (l := x) h0 (by omega)]
    rfl
theorem rSoft_eq {k : Nat} {x : List Int} (hb : x.length ≤ 17592186044416) (hk : x.length + x.length + x.length + 2 < k) : aviaryref05_Soft.f k x = some (softI x) := by
  unfold aviaryref05_Soft.f
  rw [rSoft_l0 hb x.length k _ 0 (by omega) (by omega) hk (by omega) (by omega)]
  by_cases c : x = []
  · subst c; rfl
  · rw [Int.toNat_zero, List.drop_zero, topC c]
    rfl

theorem NormShares : aviarylaw05_NormShares.Pure := by
  intro x hx0 hx1 hx
  have hl := softI_len x
  refine ⟨x.length + x.length + x.length + 100, ?_⟩
  unfold aviarylaw05_NormShares.f
  simp only [Option.bind_some, List.nil_append, List.length_nil, Nat.zero_add]
  rw [if_pos (by omega), Soft_eq (by omega) (by omega), Option.bind_some, rSoft_eq (by omega) (by omega), Option.bind_some, Same_refl (by omega) (by omega), Option.bind_some, if_pos rfl, Same_refl (by omega) (by omega)]
  rfl

end Go.Proofs.Ytembeccopodjmaa.Pure
