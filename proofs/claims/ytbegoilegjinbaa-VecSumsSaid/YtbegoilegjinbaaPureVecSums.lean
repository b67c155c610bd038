/- Add and Scale of the program equal those of the reference, for any rows of numbers and any factor. No condition. -/
import Derived.Test.YtbegoilegjinbaaPVecSumsx2
import Derived.Test.YtbegoilegjinbaaMSat
import Derived.Test.YtbegoilegjinbaaMVec
set_option linter.unusedVariables false
set_option linter.unusedSimpArgs false
namespace Go.Proofs.Ytbegoilegjinbaa.Pure
open Go Go.RowKit Go.Proofs.Ytbegoilegjinbaa.PVecSums Go.Proofs.YtbegoilegjinbaaW.PrintWords Go.Proofs.YtbegoilegjinbaaW.PrintLast Go.Proofs.Ytbegoilegjinbaa.Mth
theorem Clamp_eq (x : Int) : sat_Clamp.f x = some (clampI x) := by unfold sat_Clamp.f; rw [clamp_f1]
theorem rClamp_eq (x : Int) : aviaryref01_Clamp.f x = some (clampI x) := by unfold aviaryref01_Clamp.f; rw [clamp_f2]
theorem Shift_eq {x : Int} (hx : -9223372036854775808 ≤ x ∧ x ≤ 9223372036854775807) (n : Int) : sat_Shift.f x n = some (shiftI x n) := by
  unfold sat_Shift.f shiftI
  have hm : mx (mn n 62) 0 = (nclampI n : Int) := by unfold mx mn nclampI; (repeat' split) <;> omega
  have hm2 : nclampI n ≤ 62 := by unfold nclampI; split <;> omega
  rw [hm]
  generalize nclampI n = m at *
  cases m with
  | zero => rfl
  | succ m =>
    rw [if_neg (by omega), if_pos (by omega)]
    have e1 : ((m + 1 : Nat) : Int).toNat = m + 1 := by omega
    have e2 : (((m + 1 : Nat) : Int) - 1).toNat = m := by omega
    rw [e1, e2]
    have hp := pow2_pos m
    have hP := pow2_succ m
    have hl := pow2_le62 hm2
    rw [wrap64_id (x := 2 ^ (m + 1)) (by omega) (by omega), wrap64_id (x := 2 ^ (m + 1) - 1) (by omega) (by omega), wrap64_id (x := 2 ^ m) (by omega) (by omega), bits_mask64 x (m + 1) hm2]
    have hr := Int.emod_nonneg x (show (2 : Int) ^ (m + 1) ≠ 0 by omega)
    have hr2 := Int.emod_lt_of_pos x (pow2_pos (m + 1))
    have hq := Int.mul_ediv_add_emod x (2 ^ (m + 1))
    have hqb : -9223372036854775808 ≤ x / 2 ^ (m + 1) + 1 ∧ x / 2 ^ (m + 1) + 1 ≤ 9223372036854775807 := by
      have h1 : x / 2 ^ (m + 1) ≤ 4611686018427387904 := by
        have := Int.ediv_le_ediv (c := 2 ^ (m + 1)) (by omega) hx.2
        have h3 : 9223372036854775807 / (2 : Int) ^ (m + 1) ≤ 4611686018427387904 := by
          have := Int.ediv_lt_of_lt_mul (a := 9223372036854775807) (b := 4611686018427387905) (c := 2 ^ (m + 1)) (by omega) (by omega)
          omega
        omega
      have h2 : -9223372036854775808 ≤ x / 2 ^ (m + 1) := by
        refine Int.le_ediv_of_mul_le (by omega) ?_
        omega
      omega
    rw [wrap64_id hqb.1 hqb.2]
    have key := rdivI_floor x m
    by_cases c : x % 2 ^ (m + 1) > 2 ^ m
    · rw [if_pos c, key, if_pos (Or.inl c)]
    · rw [if_neg c]
      by_cases d : x % 2 ^ (m + 1) = 2 ^ m
      · rw [if_pos d]
        by_cases e : x > 0
        · rw [if_pos e, key, if_pos (Or.inr ⟨d, e⟩)]
        · rw [if_neg e, key, if_neg (by omega)]
      · rw [if_neg d, key, if_neg (by omega)]
theorem rShift_eq {k : Nat} (hk : 0 < k) {x : Int} (hx : -9223372036854775808 ≤ x ∧ x ≤ 9223372036854775807) (n : Int) : aviaryref01_Shift.f k x n = some (shiftI x n) := by
  obtain ⟨k, rfl⟩ : ∃ m, k = m + 1 := ⟨k - 1, by omega⟩
  unfold aviaryref01_Shift.f shiftI
  have hm : mn 62 (mx 0 n) = (nclampI n : Int) := by unfold mx mn nclampI; (repeat' split) <;> omega
  have hm2 : nclampI n ≤ 62 := by unfold nclampI; split <;> omega
  rw [hm]
  generalize nclampI n = m at *
  cases m with
  | zero => rfl
  | succ m =>
    have hp := pow2_pos m
    have hP := pow2_succ m
    have hl := pow2_le62 hm2
    have e1 : wrap64 (((m + 1 : Nat) : Int) - 1) = (m : Int) := by unfold wrap64; omega
    have e2 : ∀ y : Int, shr .u64 y ((m + 1 : Nat) : Int) = y / 2 ^ (m + 1) := fun y => by unfold shr; rw [show min (((m + 1 : Nat) : Int).toNat) IntKind.u64.bits = m + 1 by simp [IntKind.bits]; omega]
    have e3 : ∀ y : Int, shr .u64 y (m : Int) = y / 2 ^ m := fun y => by unfold shr; rw [show min ((m : Int).toNat) IntKind.u64.bits = m by simp [IntKind.bits]; omega]
    have key : ∀ y : Int, 0 ≤ y → y ≤ 9223372036854775808 → 0 ≤ y / 2 ^ (m + 1) ∧ y / 2 ^ (m + 1) ≤ 4611686018427387904 := by
      intro y h0 h1
      refine ⟨Int.ediv_nonneg h0 (by omega), ?_⟩
      have := Int.ediv_lt_of_lt_mul (a := y) (b := 4611686018427387905) (c := 2 ^ (m + 1)) (by omega) (by omega)
      omega
    rw [if_neg (by omega)]
    by_cases c : x < 0
    · have e4 : IntKind.u64.wrap (IntKind.u64.wrap (wrap64 (-wrap64 (x + 1))) + 1) = -x := by rw [wrapu64, wrapu64]; unfold wrap64; omega
      rw [if_pos c, e4]
      simp only [aviaryref01_Shift.j0]
      rw [if_pos (by omega), e1, if_pos (by omega), e2, e3, if_pos c, if_pos c, wrapu64]
      have hk := key (-x) (by omega) (by omega)
      have hr := rdivI_half (-x) m (by omega)
      have hh := Int.tmod_eq_emod_of_nonneg (a := -x / 2 ^ m) (b := 2) (Int.ediv_nonneg (by omega) (by omega))
      rw [hh]
      have hx2 : rdivI x (m + 1) = - rdivI (-x) (m + 1) := by rw [rdivI_neg]; omega
      rw [hx2, hr]
      by_cases d : -x / 2 ^ m % 2 = 1
      · rw [if_pos d, if_pos d]; congr 1; unfold wrap64; omega
      · rw [if_neg d, if_neg d]; congr 1; unfold wrap64; omega
    · have e4 : IntKind.u64.wrap x = x := by rw [wrapu64]; omega
      rw [if_neg c, e4]
      simp only [aviaryref01_Shift.j0]
      rw [if_pos (by omega), e1, if_pos (by omega), e2, e3, if_neg c, if_neg c, wrapu64]
      have hk := key x (by omega) (by omega)
      have hr := rdivI_half x m (by omega)
      have hh := Int.tmod_eq_emod_of_nonneg (a := x / 2 ^ m) (b := 2) (Int.ediv_nonneg (by omega) (by omega))
      rw [hh, hr]
      by_cases d : x / 2 ^ m % 2 = 1
      · rw [if_pos d, if_pos d]; congr 1; unfold wrap64; omega
      · rw [if_neg d, if_neg d]; congr 1; unfold wrap64; omega
theorem Mul_eq (a b : Int) : sat_Mul.f a b = some (mulI a b) := by
  unfold sat_Mul.f mulI
  have h := clamp_prod a b
  rw [Clamp_eq, Clamp_eq]; simp only [Option.bind_some]
  rw [wrap64_id (by omega) (by omega), Shift_eq ⟨by omega, by omega⟩]; simp only [Option.bind_some]
  rw [Clamp_eq]; rfl
theorem rMul_eq {k : Nat} (hk : 0 < k) (a b : Int) : aviaryref01_Mul.f k a b = some (mulI a b) := by
  unfold aviaryref01_Mul.f mulI
  have h := clamp_prod a b
  rw [rClamp_eq, rClamp_eq]; simp only [Option.bind_some]
  rw [wrap64_id (by omega) (by omega), rShift_eq hk ⟨by omega, by omega⟩]; simp only [Option.bind_some]
  rw [rClamp_eq]; rfl
theorem vAdd_l0 {a b : List Int} (hl : a.length = b.length) (hb : a.length ≤ 4611686018427387904) (d : Nat) : ∀ (k : Nat) (i : Int), 0 ≤ i → (a.length : Int) - i = d → d < k →
    vec_Add.l0 k a b (fillI (addI a b) i) (a.length : Int) i = some (addI a b, 0) := by
  have hL : (addI a b).length = a.length := by simp [addI, hl]
  induction d with
  | zero =>
    intro k i h0 hd hk
    obtain ⟨k, rfl⟩ : ∃ m, k = m + 1 := ⟨k - 1, by omega⟩
    simp only [vec_Add.l0]
    rw [if_neg (by omega), fillI_end (by omega)]
  | succ d ih =>
    intro k i h0 hd hk
    obtain ⟨k, rfl⟩ : ∃ m, k = m + 1 := ⟨k - 1, by omega⟩
    have ha := clampI_range (rd a i)
    have hb' := clampI_range (rd b i)
    simp only [vec_Add.l0]
    rw [if_pos (by omega), if_pos h0, if_pos (by omega), Clamp_eq]; simp only [Option.bind_some]
    rw [if_pos (by omega), Clamp_eq]; simp only [Option.bind_some]
    rw [wrap64_id (x := clampI (rd a i) + clampI (rd b i)) (by omega) (by omega), Clamp_eq]; simp only [Option.bind_some]
    have e : clampI (clampI (rd a i) + clampI (rd b i)) = rd (addI a b) i := by unfold addI; rw [rd_zipWith h0 (by omega) (by omega)]
    rw [if_pos (by rw [fillI_len (by omega)]; omega), e, fillI_set h0 (by omega), wrap64_id (x := i + 1) (by omega) (by omega)]
    exact ih k (i + 1) (by omega) (by omega) (by omega)
theorem vAdd_eq {k : Nat} {a b : List Int} (hb : a.length ≤ 35184372088832) (hk : a.length < k) : vec_Add.f k a b = some (if a.length = b.length then (addI a b, 0) else ([], 21)) := by
  unfold vec_Add.f
  by_cases c : a.length = b.length
  · have hL : (addI a b).length = a.length := by simp [addI, c]
    have e : List.replicate ((a.length : Int)).toNat (0 : Int) = fillI (addI a b) 0 := by rw [fillI_zero, hL]; rfl
    rw [if_pos (by omega), if_pos c, if_pos (by omega), if_pos (by omega), e, vAdd_l0 c (by omega) a.length k 0 (by omega) (by omega) hk]
  · rw [if_neg (by omega), if_neg c]
theorem rvAdd_l0 {a b : List Int} (hl : a.length = b.length) (hb : a.length ≤ 17592186044416) (d : Nat) : ∀ (k : Nat) (i : Int), 0 ≤ i → (a.length : Int) - i = d → d < k →
    aviaryref04_Add.l0 k a b ((addI a b).take i.toNat) i = some (addI a b, 0) := by
  have hL : (addI a b).length = a.length := by simp [addI, hl]
  induction d with
  | zero =>
    intro k i h0 hd hk
    obtain ⟨k, rfl⟩ : ∃ m, k = m + 1 := ⟨k - 1, by omega⟩
    simp only [aviaryref04_Add.l0]
    rw [if_neg (by omega), take_len (by omega)]
  | succ d ih =>
    intro k i h0 hd hk
    obtain ⟨k, rfl⟩ : ∃ m, k = m + 1 := ⟨k - 1, by omega⟩
    have ha := clampI_range (rd a i)
    have hb' := clampI_range (rd b i)
    simp only [aviaryref04_Add.l0]
    rw [if_pos (by omega), if_pos h0, rClamp_eq]; simp only [Option.bind_some]
    rw [if_pos (by omega), rClamp_eq]; simp only [Option.bind_some]
    rw [wrap64_id (x := clampI (rd a i) + clampI (rd b i)) (by omega) (by omega), rClamp_eq]; simp only [Option.bind_some]
    have e : clampI (clampI (rd a i) + clampI (rd b i)) = rd (addI a b) i := by unfold addI; rw [rd_zipWith h0 (by omega) (by omega)]
    rw [if_pos (by rw [List.length_take]; omega), e, take_rd h0 (by omega), wrap64_id (x := i + 1) (by omega) (by omega)]
    exact ih k (i + 1) (by omega) (by omega) (by omega)
theorem rvAdd_eq {k : Nat} {a b : List Int} (hb : a.length ≤ 17592186044416) (hk : a.length < k) : aviaryref04_Add.f k a b = some (if a.length = b.length then (addI a b, 0) else ([], 21)) := by
  unfold aviaryref04_Add.f
  by_cases c : a.length = b.length
  · rw [if_pos (by omega), if_pos c]
    exact rvAdd_l0 c hb a.length k 0 (by omega) (by omega) hk
  · rw [if_neg (by omega), if_neg c]
theorem Same_l0 {a b : List Int} (hl : a.length = b.length) (hb : a.length ≤ 4611686018427387904) (d : Nat) : ∀ (k : Nat) (i : Int), 0 ≤ i → (a.length : Int) - i = d → d < k →
    aviaryref04_Same.l0 k a b i = some (decide (a.drop i.toNat = b.drop i.toNat)) := by
  induction d with
  | zero =>
    intro k i h0 hd hk
    obtain ⟨k, rfl⟩ : ∃ m, k = m + 1 := ⟨k - 1, by omega⟩
    simp only [aviaryref04_Same.l0]
    rw [if_neg (by omega), drop_len (by omega), drop_len (by omega)]
    simp
  | succ d ih =>
    intro k i h0 hd hk
    obtain ⟨k, rfl⟩ : ∃ m, k = m + 1 := ⟨k - 1, by omega⟩
    simp only [aviaryref04_Same.l0]
    rw [if_pos (by omega), if_pos h0, if_pos (by omega), drop_rd (l := a) h0 (by omega), drop_rd (l := b) h0 (by omega)]
    by_cases c : rd a i = rd b i
    · rw [if_pos c, wrap64_id (x := i + 1) (by omega) (by omega), ih k (i + 1) (by omega) (by omega) (by omega), c]
      simp
    · rw [if_neg c]
      simp [c]
theorem Same_eq {k : Nat} {a b : List Int} (hb : a.length ≤ 4611686018427387904) (hk : a.length < k) : aviaryref04_Same.f k a b = some (decide (a = b)) := by
  unfold aviaryref04_Same.f
  by_cases c : a.length = b.length
  · rw [if_pos (by omega), Same_l0 c hb a.length k 0 (by omega) (by omega) hk]
    rfl
  · rw [if_neg (by omega)]
    have : a ≠ b := fun h => c (by rw [h])
    simp [this]
theorem Same_refl {k : Nat} {a : List Int} (hb : a.length ≤ 4611686018427387904) (hk : a.length < k) : aviaryref04_Same.f k a a = some true := by rw [Same_eq hb hk]; simp
theorem Scale_l0 {x : List Int} (n : Int) (hb : x.length ≤ 4611686018427387904) (d : Nat) : ∀ (k : Nat) (i : Int), 0 ≤ i → (x.length : Int) - i = d → d < k →
    vec_Scale.l0 k n (fillI (scaleI x n) i) x (x.length : Int) i = some (scaleI x n) := by
  have hL : (scaleI x n).length = x.length := by simp [scaleI]
  induction d with
  | zero =>
    intro k i h0 hd hk
    obtain ⟨k, rfl⟩ : ∃ m, k = m + 1 := ⟨k - 1, by omega⟩
    simp only [vec_Scale.l0]
    rw [if_neg (by omega), fillI_end (by omega)]
  | succ d ih =>
    intro k i h0 hd hk
    obtain ⟨k, rfl⟩ : ∃ m, k = m + 1 := ⟨k - 1, by omega⟩
    simp only [vec_Scale.l0]
    rw [if_pos (by omega), if_pos h0, if_pos (by omega), Mul_eq]; simp only [Option.bind_some]
    have e : mulI (rd x i) n = rd (scaleI x n) i := by unfold scaleI; rw [rd_map h0 (by omega)]
    rw [if_pos (by rw [fillI_len (by omega)]; omega), e, fillI_set h0 (by omega), wrap64_id (x := i + 1) (by omega) (by omega)]
    exact ih k (i + 1) (by omega) (by omega) (by omega)
theorem Scale_eq {k : Nat} {x : List Int} (n : Int) (hb : x.length ≤ 35184372088832) (hk : x.length < k) : vec_Scale.f k x n = some (scaleI x n) := by
  unfold vec_Scale.f
  have hL : (scaleI x n).length = x.length := by simp [scaleI]
  have e : List.replicate ((x.length : Int)).toNat (0 : Int) = fillI (scaleI x n) 0 := by rw [fillI_zero, hL]; rfl
  rw [if_pos (by omega), if_pos (by omega), e, Scale_l0 n (by omega) x.length k 0 (by omega) (by omega) hk]
theorem rScale_l0 {x : List Int} (n : Int) (hb : x.length ≤ 17592186044416) (d : Nat) : ∀ (k : Nat) (i : Int), 0 ≤ i → (x.length : Int) - i = d → d + 1 < k →
    aviaryref04_Scale.l0 k x n ((scaleI x n).take i.toNat) i = some (scaleI x n) := by
  have hL : (scaleI x n).length = x.length := by simp [scaleI]
  induction d with
  | zero =>
    intro k i h0 hd hk
    obtain ⟨k, rfl⟩ : ∃ m, k = m + 1 := ⟨k - 1, by omega⟩
    simp only [aviaryref04_Scale.l0]
    rw [if_neg (by omega), take_len (by omega)]
  | succ d ih =>
    intro k i h0 hd hk
    obtain ⟨k, rfl⟩ : ∃ m, k = m + 1 := ⟨k - 1, by omega⟩
    simp only [aviaryref04_Scale.l0]
    rw [if_pos (by omega), if_pos h0, rMul_eq (by omega)]; simp only [Option.bind_some]
    have e : mulI (rd x i) n = rd (scaleI x n) i := by unfold scaleI; rw [rd_map h0 (by omega)]
    rw [if_pos (by rw [List.length_take]; omega), e, take_rd h0 (by omega), wrap64_id (x := i + 1) (by omega) (by omega)]
    exact ih k (i + 1) (by omega) (by omega) (by omega)
theorem rScale_eq {k : Nat} {x : List Int} (n : Int) (hb : x.length ≤ 17592186044416) (hk : x.length + 1 < k) : aviaryref04_Scale.f k x n = some (scaleI x n) := by
  unfold aviaryref04_Scale.f
  exact rScale_l0 n hb x.length k 0 (by omega) (by omega) hk
theorem VecSums : aviarylaw04_VecSums.Pure := by
  intro a b n ha0 ha1 ha hb0 hb1 hb hn
  refine ⟨a.length + b.length + 10, ?_⟩
  unfold aviarylaw04_VecSums.f
  simp only [Option.bind_some, List.nil_append, List.length_nil, Nat.zero_add]
  rw [if_pos (by omega), if_pos (by omega), vAdd_eq (by omega) (by omega), rvAdd_eq (by omega) (by omega)]
  simp only [Option.bind_some]
  rw [Same_refl (by split <;> simp [addI] <;> omega) (by split <;> simp [addI] <;> omega)]
  simp only [Option.bind_some, if_true]
  rw [if_pos (by omega), Scale_eq n (by omega) (by omega), rScale_eq n (by omega) (by omega)]
  simp only [Option.bind_some]
  rw [Same_refl (by simp [scaleI]; omega) (by simp [scaleI]; omega)]
  rfl

end Go.Proofs.Ytbegoilegjinbaa.Pure
