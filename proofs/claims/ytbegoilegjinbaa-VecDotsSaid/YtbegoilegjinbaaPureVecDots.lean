/- Dot and Inner of the program equal those of the reference, for any rows of weights and numbers. No condition. -/
import Derived.Test.YtbegoilegjinbaaPVecDotsx3
import Derived.Test.YtbegoilegjinbaaMSat
import Derived.Test.YtbegoilegjinbaaMVec
set_option linter.unusedVariables false
set_option linter.unusedSimpArgs false
namespace Go.Proofs.Ytbegoilegjinbaa.Pure
open Go Go.RowKit Go.Proofs.Ytbegoilegjinbaa.PVecDots Go.Proofs.YtbegoilegjinbaaW.PrintWords Go.Proofs.YtbegoilegjinbaaW.PrintLast Go.Proofs.Ytbegoilegjinbaa.Mth
theorem Clamp_eq (x : Int) : sat_Clamp.f x = some (clampI x) := by unfold sat_Clamp.f; rw [clamp_f1]
theorem rClamp_eq (x : Int) : aviaryref01_Clamp.f x = some (clampI x) := by unfold aviaryref01_Clamp.f; rw [clamp_f2]
theorem Add_eq {a b : Int} (ha : -9223372036854775808 ≤ a ∧ a ≤ 9223372036854775807) (hb : -9223372036854775808 ≤ b ∧ b ≤ 9223372036854775807) : sat_Add.f a b = some (saddI a b) := by
  unfold sat_Add.f
  have h := sadd_sign ha.1 ha.2 hb.1 hb.2
  by_cases c : (Go.bits .and .i64 (Go.bits .xor .i64 a (wrap64 (a + b))) (Go.bits .xor .i64 b (wrap64 (a + b)))) ≥ 0
  · rw [if_pos c]
    have h2 := h.1 c
    clear h c
    unfold wrap64 at *
    unfold saddI
    congr 1
    (repeat' split) <;> omega
  · rw [if_neg c]
    have h2 : ¬ ¬ _ := fun z => c (h.2 z)
    have h3 := Classical.not_not.1 h2
    clear h c h2
    unfold wrap64 at *
    unfold saddI
    (repeat' split) <;> first | rfl | omega
theorem rAdd_eq {k : Nat} (hk : 0 < k) {a b : Int} (ha : -9223372036854775808 ≤ a ∧ a ≤ 9223372036854775807) (hb : -9223372036854775808 ≤ b ∧ b ≤ 9223372036854775807) : aviaryref01_Add.f k a b = some (saddI a b) := by
  obtain ⟨k, rfl⟩ : ∃ m, k = m + 1 := ⟨k - 1, by omega⟩
  unfold aviaryref01_Add.f
  by_cases c : b > 0
  · rw [if_pos c, wrap64_id (x := 9223372036854775807 - b) (by omega) (by omega)]
    simp only [aviaryref01_Add.j0]
    by_cases d : a > 9223372036854775807 - b
    · rw [if_pos (by simpa using d)]
      unfold saddI; rw [if_pos (by omega)]
    · rw [if_neg (by simpa using d), if_neg (by omega), wrap64_id (by omega) (by omega)]
      unfold saddI; rw [if_neg (by omega), if_neg (by omega)]
  · rw [if_neg c]
    simp only [aviaryref01_Add.j0]
    rw [if_neg (by decide)]
    by_cases d : b < 0
    · rw [if_pos d, wrap64_id (x := -9223372036854775808 - b) (by omega) (by omega)]
      by_cases e : a < -9223372036854775808 - b
      · rw [if_pos e]; unfold saddI; rw [if_neg (by omega), if_pos (by omega)]
      · rw [if_neg e, wrap64_id (by omega) (by omega)]; unfold saddI; rw [if_neg (by omega), if_neg (by omega)]
    · rw [if_neg d, wrap64_id (by omega) (by omega)]; unfold saddI; rw [if_neg (by omega), if_neg (by omega)]
theorem Shift_eq {x : Int} (hx : -9223372036854775808 ≤ x ∧ x ≤ 9223372036854775807) (n : Int) : sat_Shift.f x n = some (shiftI x n) := by
  unfold sat_Shift.f shiftI
  have hm : mx (mn n 62) 0 = (nclampI n : Int) := by unfold mx mn nclampI; (repeat' split) <;> omega
  have hm2 : nclampI n ≤ 62 := by unfold nclampI; split <;> omega
  rw [hm]
  generalize nclampI n = m at *
  cases m with
  | zero => rfl
  | succ m =>
    rw [if_neg (by omega), if_pos (by omega)]
    have e1 : ((m + 1 : Nat) : Int).toNat = m + 1 := by omega
    have e2 : (((m + 1 : Nat) : Int) - 1).toNat = m := by omega
    rw [e1, e2]
    have hp := pow2_pos m
    have hP := pow2_succ m
    have hl := pow2_le62 hm2
    rw [wrap64_id (x := 2 ^ (m + 1)) (by omega) (by omega), wrap64_id (x := 2 ^ (m + 1) - 1) (by omega) (by omega), wrap64_id (x := 2 ^ m) (by omega) (by omega), bits_mask64 x (m + 1) hm2]
    have hr := Int.emod_nonneg x (show (2 : Int) ^ (m + 1) ≠ 0 by omega)
    have hr2 := Int.emod_lt_of_pos x (pow2_pos (m + 1))
    have hq := Int.mul_ediv_add_emod x (2 ^ (m + 1))
    have hqb : -9223372036854775808 ≤ x / 2 ^ (m + 1) + 1 ∧ x / 2 ^ (m + 1) + 1 ≤ 9223372036854775807 := by
      have h1 : x / 2 ^ (m + 1) ≤ 4611686018427387904 := by
        have := Int.ediv_le_ediv (c := 2 ^ (m + 1)) (by omega) hx.2
        have h3 : 9223372036854775807 / (2 : Int) ^ (m + 1) ≤ 4611686018427387904 := by
          have := Int.ediv_lt_of_lt_mul (a := 9223372036854775807) (b := 4611686018427387905) (c := 2 ^ (m + 1)) (by omega) (by omega)
          omega
        omega
      have h2 : -9223372036854775808 ≤ x / 2 ^ (m + 1) := by
        refine Int.le_ediv_of_mul_le (by omega) ?_
        omega
      omega
    rw [wrap64_id hqb.1 hqb.2]
    have key := rdivI_floor x m
    by_cases c : x % 2 ^ (m + 1) > 2 ^ m
    · rw [if_pos c, key, if_pos (Or.inl c)]
    · rw [if_neg c]
      by_cases d : x % 2 ^ (m + 1) = 2 ^ m
      · rw [if_pos d]
        by_cases e : x > 0
        · rw [if_pos e, key, if_pos (Or.inr ⟨d, e⟩)]
        · rw [if_neg e, key, if_neg (by omega)]
      · rw [if_neg d, key, if_neg (by omega)]
theorem rShift_eq {k : Nat} (hk : 0 < k) {x : Int} (hx : -9223372036854775808 ≤ x ∧ x ≤ 9223372036854775807) (n : Int) : aviaryref01_Shift.f k x n = some (shiftI x n) := by
  obtain ⟨k, rfl⟩ : ∃ m, k = m + 1 := ⟨k - 1, by omega⟩
  unfold aviaryref01_Shift.f shiftI
  have hm : mn 62 (mx 0 n) = (nclampI n : Int) := by unfold mx mn nclampI; (repeat' split) <;> omega
  have hm2 : nclampI n ≤ 62 := by unfold nclampI; split <;> omega
  rw [hm]
  generalize nclampI n = m at *
  cases m with
  | zero => rfl
  | succ m =>
    have hp := pow2_pos m
    have hP := pow2_succ m
    have hl := pow2_le62 hm2
    have e1 : wrap64 (((m + 1 : Nat) : Int) - 1) = (m : Int) := by unfold wrap64; omega
    have e2 : ∀ y : Int, shr .u64 y ((m + 1 : Nat) : Int) = y / 2 ^ (m + 1) := fun y => by unfold shr; rw [show min (((m + 1 : Nat) : Int).toNat) IntKind.u64.bits = m + 1 by simp [IntKind.bits]; omega]
    have e3 : ∀ y : Int, shr .u64 y (m : Int) = y / 2 ^ m := fun y => by unfold shr; rw [show min ((m : Int).toNat) IntKind.u64.bits = m by simp [IntKind.bits]; omega]
    have key : ∀ y : Int, 0 ≤ y → y ≤ 9223372036854775808 → 0 ≤ y / 2 ^ (m + 1) ∧ y / 2 ^ (m + 1) ≤ 4611686018427387904 := by
      intro y h0 h1
      refine ⟨Int.ediv_nonneg h0 (by omega), ?_⟩
      have := Int.ediv_lt_of_lt_mul (a := y) (b := 4611686018427387905) (c := 2 ^ (m + 1)) (by omega) (by omega)
      omega
    rw [if_neg (by omega)]
    by_cases c : x < 0
    · have e4 : IntKind.u64.wrap (IntKind.u64.wrap (wrap64 (-wrap64 (x + 1))) + 1) = -x := by rw [wrapu64, wrapu64]; unfold wrap64; omega
      rw [if_pos c, e4]
      simp only [aviaryref01_Shift.j0]
      rw [if_pos (by omega), e1, if_pos (by omega), e2, e3, if_pos c, if_pos c, wrapu64]
      have hk := key (-x) (by omega) (by omega)
      have hr := rdivI_half (-x) m (by omega)
      have hh := Int.tmod_eq_emod_of_nonneg (a := -x / 2 ^ m) (b := 2) (Int.ediv_nonneg (by omega) (by omega))
      rw [hh]
      have hx2 : rdivI x (m + 1) = - rdivI (-x) (m + 1) := by rw [rdivI_neg]; omega
      rw [hx2, hr]
      by_cases d : -x / 2 ^ m % 2 = 1
      · rw [if_pos d, if_pos d]; congr 1; unfold wrap64; omega
      · rw [if_neg d, if_neg d]; congr 1; unfold wrap64; omega
    · have e4 : IntKind.u64.wrap x = x := by rw [wrapu64]; omega
      rw [if_neg c, e4]
      simp only [aviaryref01_Shift.j0]
      rw [if_pos (by omega), e1, if_pos (by omega), e2, e3, if_neg c, if_neg c, wrapu64]
      have hk := key x (by omega) (by omega)
      have hr := rdivI_half x m (by omega)
      have hh := Int.tmod_eq_emod_of_nonneg (a := x / 2 ^ m) (b := 2) (Int.ediv_nonneg (by omega) (by omega))
      rw [hh, hr]
      by_cases d : x / 2 ^ m % 2 = 1
      · rw [if_pos d, if_pos d]; congr 1; unfold wrap64; omega
      · rw [if_neg d, if_neg d]; congr 1; unfold wrap64; omega
theorem sum8_l0 {w x : List Int} (hw : All8 w) (hx : All64 x) (hl : w.length = x.length) (hb : w.length ≤ 4611686018427387904) (d : Nat) : ∀ (k : Nat) (s i : Int), 0 ≤ i → (w.length : Int) - i = d → d < k → -9223372036854775808 ≤ s → s ≤ 9223372036854775807 →
    vec_sum_int8.l0 k x s w (w.length : Int) i = some (dotA s (w.drop i.toNat) (x.drop i.toNat)) := by
  induction d with
  | zero =>
    intro k s i h0 hd hk hs0 hs1
    obtain ⟨k, rfl⟩ : ∃ m, k = m + 1 := ⟨k - 1, by omega⟩
    simp only [vec_sum_int8.l0]
    rw [if_neg (by omega), drop_len (by omega)]
    rfl
  | succ d ih =>
    intro k s i h0 hd hk hs0 hs1
    obtain ⟨k, rfl⟩ : ∃ m, k = m + 1 := ⟨k - 1, by omega⟩
    have hp := clamp_prod (rd w i) (rd x i)
    have hr := rd8 hw i
    simp only [vec_sum_int8.l0]
    rw [if_pos (by omega), if_pos h0, if_pos (by omega), wrap64_id (x := rd w i) (by omega) (by omega), Clamp_eq]; simp only [Option.bind_some]
    rw [if_pos (by omega), Clamp_eq]; simp only [Option.bind_some]
    rw [wrap64_id (x := clampI (rd w i) * clampI (rd x i)) (by omega) (by omega), Add_eq ⟨hs0, hs1⟩ ⟨by omega, by omega⟩]; simp only [Option.bind_some]
    rw [wrap64_id (x := i + 1) (by omega) (by omega), ih k _ (i + 1) (by omega) (by omega) (by omega) (saddI_range _ _).1 (saddI_range _ _).2, drop_rd (l := w) h0 (by omega), drop_rd (l := x) h0 (by omega)]
    rfl
theorem sum8_eq {k : Nat} {w x : List Int} (hw : All8 w) (hx : All64 x) (hl : w.length = x.length) (hb : w.length ≤ 4611686018427387904) (hk : w.length < k) : vec_sum_int8.f k w x = some (dotA 0 w x) := by
  unfold vec_sum_int8.f
  rw [sum8_l0 hw hx hl hb w.length k 0 0 (by omega) (by omega) hk (by omega) (by omega)]
  rfl
theorem sum64_l0 {w x : List Int} (hw : All64 w) (hx : All64 x) (hl : w.length = x.length) (hb : w.length ≤ 4611686018427387904) (d : Nat) : ∀ (k : Nat) (s i : Int), 0 ≤ i → (w.length : Int) - i = d → d < k → -9223372036854775808 ≤ s → s ≤ 9223372036854775807 →
    vec_sum_int64.l0 k x s w (w.length : Int) i = some (dotA s (w.drop i.toNat) (x.drop i.toNat)) := by
  induction d with
  | zero =>
    intro k s i h0 hd hk hs0 hs1
    obtain ⟨k, rfl⟩ : ∃ m, k = m + 1 := ⟨k - 1, by omega⟩
    simp only [vec_sum_int64.l0]
    rw [if_neg (by omega), drop_len (by omega)]
    rfl
  | succ d ih =>
    intro k s i h0 hd hk hs0 hs1
    obtain ⟨k, rfl⟩ : ∃ m, k = m + 1 := ⟨k - 1, by omega⟩
    have hp := clamp_prod (rd w i) (rd x i)
    simp only [vec_sum_int64.l0]
    rw [if_pos (by omega), if_pos h0, if_pos (by omega), Clamp_eq]; simp only [Option.bind_some]
    rw [if_pos (by omega), Clamp_eq]; simp only [Option.bind_some]
    rw [wrap64_id (x := clampI (rd w i) * clampI (rd x i)) (by omega) (by omega), Add_eq ⟨hs0, hs1⟩ ⟨by omega, by omega⟩]; simp only [Option.bind_some]
    rw [wrap64_id (x := i + 1) (by omega) (by omega), ih k _ (i + 1) (by omega) (by omega) (by omega) (saddI_range _ _).1 (saddI_range _ _).2, drop_rd (l := w) h0 (by omega), drop_rd (l := x) h0 (by omega)]
    rfl
theorem sum64_eq {k : Nat} {w x : List Int} (hw : All64 w) (hx : All64 x) (hl : w.length = x.length) (hb : w.length ≤ 4611686018427387904) (hk : w.length < k) : vec_sum_int64.f k w x = some (dotA 0 w x) := by
  unfold vec_sum_int64.f
  rw [sum64_l0 hw hx hl hb w.length k 0 0 (by omega) (by omega) hk (by omega) (by omega)]
  rfl
theorem Dot_eq {k : Nat} {w x : List Int} (hw : All8 w) (hx : All64 x) (hb : w.length ≤ 4611686018427387904) (hk : w.length < k) : vec_Dot.f k w x = some (if w.length = x.length then (dotI w x, 0) else (0, 21)) := by
  unfold vec_Dot.f
  by_cases c : w.length = x.length
  · have hr := dotA_range 0 w x (by omega) (by omega)
    rw [if_pos (by omega), if_pos c, sum8_eq hw hx c hb hk]; simp only [Option.bind_some]
    rw [Shift_eq hr]; simp only [Option.bind_some]
    rw [Clamp_eq, shift_at nclamp6]; rfl
  · rw [if_neg (by omega), if_neg c]
theorem Inner_eq {k : Nat} {w x : List Int} (hw : All64 w) (hx : All64 x) (hb : w.length ≤ 4611686018427387904) (hk : w.length < k) : vec_Inner.f k w x = some (if w.length = x.length then (innerI w x, 0) else (0, 21)) := by
  unfold vec_Inner.f
  by_cases c : w.length = x.length
  · have hr := dotA_range 0 w x (by omega) (by omega)
    rw [if_pos (by omega), if_pos c, sum64_eq hw hx c hb hk]; simp only [Option.bind_some]
    rw [Shift_eq hr]; simp only [Option.bind_some]
    rw [Clamp_eq, shift_at nclamp16]; rfl
  · rw [if_neg (by omega), if_neg c]
theorem rDot_l0 {w x : List Int} (hw : All8 w) (hx : All64 x) (hl : w.length = x.length) (hb : w.length ≤ 4611686018427387904) (d : Nat) : ∀ (k : Nat) (s i : Int), 0 ≤ i → (w.length : Int) - i = d → d + 1 < k → -9223372036854775808 ≤ s → s ≤ 9223372036854775807 →
    aviaryref04_Dot.l0 k w x s i = some (clampI (rdivI (dotA s (w.drop i.toNat) (x.drop i.toNat)) 6), 0) := by
  induction d with
  | zero =>
    intro k s i h0 hd hk hs0 hs1
    obtain ⟨k, rfl⟩ : ∃ m, k = m + 1 := ⟨k - 1, by omega⟩
    simp only [aviaryref04_Dot.l0]
    rw [if_neg (by omega), drop_len (by omega), rShift_eq (by omega) ⟨hs0, hs1⟩]; simp only [Option.bind_some]
    rw [rClamp_eq, shift_at nclamp6]; rfl
  | succ d ih =>
    intro k s i h0 hd hk hs0 hs1
    obtain ⟨k, rfl⟩ : ∃ m, k = m + 1 := ⟨k - 1, by omega⟩
    have hp := clamp_prod (rd w i) (rd x i)
    have hr := rd8 hw i
    have ec : clampI (rd w i) = rd w i := clampI_id (by omega) (by omega)
    simp only [aviaryref04_Dot.l0]
    rw [if_pos (by omega), if_pos h0, if_pos (by omega), rClamp_eq]; simp only [Option.bind_some]
    rw [wrap64_id (x := rd w i) (by omega) (by omega), ← ec, wrap64_id (x := clampI (rd w i) * clampI (rd x i)) (by omega) (by omega), rAdd_eq (by omega) ⟨hs0, hs1⟩ ⟨by omega, by omega⟩]; simp only [Option.bind_some]
    rw [wrap64_id (x := i + 1) (by omega) (by omega), ih k _ (i + 1) (by omega) (by omega) (by omega) (saddI_range _ _).1 (saddI_range _ _).2, drop_rd (l := w) h0 (by omega), drop_rd (l := x) h0 (by omega)]
    rfl
theorem rDot_eq {k : Nat} {w x : List Int} (hw : All8 w) (hx : All64 x) (hb : w.length ≤ 4611686018427387904) (hk : w.length + 1 < k) : aviaryref04_Dot.f k w x = some (if w.length = x.length then (dotI w x, 0) else (0, 21)) := by
  unfold aviaryref04_Dot.f
  by_cases c : w.length = x.length
  · rw [if_pos (by omega), if_pos c, rDot_l0 hw hx c hb w.length k 0 0 (by omega) (by omega) hk (by omega) (by omega)]
    rfl
  · rw [if_neg (by omega), if_neg c]
theorem rInner_l0 {w x : List Int} (hw : All64 w) (hx : All64 x) (hl : w.length = x.length) (hb : w.length ≤ 4611686018427387904) (d : Nat) : ∀ (k : Nat) (s i : Int), 0 ≤ i → (w.length : Int) - i = d → d + 1 < k → -9223372036854775808 ≤ s → s ≤ 9223372036854775807 →
    aviaryref04_Inner.l0 k w x s i = some (clampI (rdivI (dotA s (w.drop i.toNat) (x.drop i.toNat)) 16), 0) := by
  induction d with
  | zero =>
    intro k s i h0 hd hk hs0 hs1
    obtain ⟨k, rfl⟩ : ∃ m, k = m + 1 := ⟨k - 1, by omega⟩
    simp only [aviaryref04_Inner.l0]
    rw [if_neg (by omega), drop_len (by omega), rShift_eq (by omega) ⟨hs0, hs1⟩]; simp only [Option.bind_some]
    rw [rClamp_eq, shift_at nclamp16]; rfl
  | succ d ih =>
    intro k s i h0 hd hk hs0 hs1
    obtain ⟨k, rfl⟩ : ∃ m, k = m + 1 := ⟨k - 1, by omega⟩
    have hp := clamp_prod (rd w i) (rd x i)
    simp only [aviaryref04_Inner.l0]
    rw [if_pos (by omega), if_pos h0, rClamp_eq]; simp only [Option.bind_some]
    rw [if_pos (by omega), rClamp_eq]; simp only [Option.bind_some]
    rw [wrap64_id (x := clampI (rd w i) * clampI (rd x i)) (by omega) (by omega), rAdd_eq (by omega) ⟨hs0, hs1⟩ ⟨by omega, by omega⟩]; simp only [Option.bind_some]
    rw [wrap64_id (x := i + 1) (by omega) (by omega), ih k _ (i + 1) (by omega) (by omega) (by omega) (saddI_range _ _).1 (saddI_range _ _).2, drop_rd (l := w) h0 (by omega), drop_rd (l := x) h0 (by omega)]
    rfl
theorem rInner_eq {k : Nat} {w x : List Int} (hw : All64 w) (hx : All64 x) (hb : w.length ≤ 4611686018427387904) (hk : w.length + 1 < k) : aviaryref04_Inner.f k w x = some (if w.length = x.length then (innerI w x, 0) else (0, 21)) := by
  unfold aviaryref04_Inner.f
  by_cases c : w.length = x.length
  · rw [if_pos (by omega), if_pos c, rInner_l0 hw hx c hb w.length k 0 0 (by omega) (by omega) hk (by omega) (by omega)]
    rfl
  · rw [if_neg (by omega), if_neg c]
theorem VecDots : aviarylaw04_VecDots.Pure := by
  intro w a b hw0 hw1 hw ha0 ha1 ha hb0 hb1 hb
  refine ⟨w.length + a.length + b.length + 10, ?_⟩
  unfold aviarylaw04_VecDots.f
  rw [Dot_eq (all8 hw) (all64 ha) (by omega) (by omega), rDot_eq (all8 hw) (all64 ha) (by omega) (by omega), Inner_eq (all64 ha) (all64 hb) (by omega) (by omega), rInner_eq (all64 ha) (all64 hb) (by omega) (by omega)]
  simp

end Go.Proofs.Ytbegoilegjinbaa.Pure
