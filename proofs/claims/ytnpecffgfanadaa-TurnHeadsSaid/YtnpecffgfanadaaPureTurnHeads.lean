/- Heads of the program equals that of the reference: for any row, any number of heads and any place. No condition. -/
import Derived.Test.YtnpecffgfanadaaPTurnHeadsx4
import Derived.Test.YtnpecffgfanadaaMSat
import Derived.Test.YtnpecffgfanadaaMCurve
import Derived.Test.YtnpecffgfanadaaMVec
import Derived.Test.YtnpecffgfanadaaMTurn
set_option linter.unusedVariables false
set_option linter.unusedSimpArgs false
namespace Go.Proofs.Ytnpecffgfanadaa.Pure
open Go Go.RowKit Go.Proofs.Ytnpecffgfanadaa.PTurnHeads Go.Proofs.YtnpecffgfanadaaW.PrintWords Go.Proofs.YtnpecffgfanadaaW.PrintLast Go.Proofs.Ytnpecffgfanadaa.Mth
theorem Clamp_eq (x : Int) : sat_Clamp.f x = some (clampI x) := by unfold sat_Clamp.f; rw [clamp_f1]
theorem rClamp_eq (x : Int) : aviaryref01_Clamp.f x = some (clampI x) := by unfold aviaryref01_Clamp.f; rw [clamp_f2]
theorem Shift_eq {x : Int} (hx : -9223372036854775808 ≤ x ∧ x ≤ 9223372036854775807) (n : Int) : sat_Shift.f x n = some (shiftI x n) := by
  unfold sat_Shift.f shiftI
  have hm : mx (mn n 62) 0 = (nclampI n : Int) := by unfold mx mn nclampI; (repeat' split) <;> omega
  have hm2 : nclampI n ≤ 62 := by unfold nclampI; split <;> omega
  rw [hm]
  generalize nclampI n = m at *
  cases m with
  | zero => rfl
  | succ m =>
    rw [if_neg (by omega), if_pos (by omega)]
    have e1 : ((m + 1 : Nat) : Int).toNat = m + 1 := by omega
    have e2 : (((m + 1 : Nat) : Int) - 1).toNat = m := by omega
    rw [e1, e2]
    have hp := pow2_pos m
    have hP := pow2_succ m
    have hl := pow2_le62 hm2
    rw [wrap64_id (x := 2 ^ (m + 1)) (by omega) (by omega), wrap64_id (x := 2 ^ (m + 1) - 1) (by omega) (by omega), wrap64_id (x := 2 ^ m) (by omega) (by omega), bits_mask64 x (m + 1) hm2]
    have hr := Int.emod_nonneg x (show (2 : Int) ^ (m + 1) ≠ 0 by omega)
    have hr2 := Int.emod_lt_of_pos x (pow2_pos (m + 1))
    have hq := Int.mul_ediv_add_emod x (2 ^ (m + 1))
    have hqb : -9223372036854775808 ≤ x / 2 ^ (m + 1) + 1 ∧ x / 2 ^ (m + 1) + 1 ≤ 9223372036854775807 := by
      have h1 : x / 2 ^ (m + 1) ≤ 4611686018427387904 := by
        have := Int.ediv_le_ediv (c := 2 ^ (m + 1)) (by omega) hx.2
        have h3 : 9223372036854775807 / (2 : Int) ^ (m + 1) ≤ 4611686018427387904 := by
          have := Int.ediv_lt_of_lt_mul (a := 9223372036854775807) (b := 4611686018427387905) (c := 2 ^ (m + 1)) (by omega) (by omega)
          omega
        omega
      have h2 : -9223372036854775808 ≤ x / 2 ^ (m + 1) := by
        refine Int.le_ediv_of_mul_le (by omega) ?_
        omega
      omega
    rw [wrap64_id hqb.1 hqb.2]
    have key := rdivI_floor x m
    by_cases c : x % 2 ^ (m + 1) > 2 ^ m
    · rw [if_pos c, key, if_pos (Or.inl c)]
    · rw [if_neg c]
      by_cases d : x % 2 ^ (m + 1) = 2 ^ m
      · rw [if_pos d]
        by_cases e : x > 0
        · rw [if_pos e, key, if_pos (Or.inr ⟨d, e⟩)]
        · rw [if_neg e, key, if_neg (by omega)]
      · rw [if_neg d, key, if_neg (by omega)]
theorem rShift_eq {k : Nat} (hk : 0 < k) {x : Int} (hx : -9223372036854775808 ≤ x ∧ x ≤ 9223372036854775807) (n : Int) : aviaryref01_Shift.f k x n = some (shiftI x n) := by
  obtain ⟨k, rfl⟩ : ∃ m, k = m + 1 := ⟨k - 1, by omega⟩
  unfold aviaryref01_Shift.f shiftI
  have hm : mn 62 (mx 0 n) = (nclampI n : Int) := by unfold mx mn nclampI; (repeat' split) <;> omega
  have hm2 : nclampI n ≤ 62 := by unfold nclampI; split <;> omega
  rw [hm]
  generalize nclampI n = m at *
  cases m with
  | zero => rfl
  | succ m =>
    have hp := pow2_pos m
    have hP := pow2_succ m
    have hl := pow2_le62 hm2
    have e1 : wrap64 (((m + 1 : Nat) : Int) - 1) = (m : Int) := by unfold wrap64; omega
    have e2 : ∀ y : Int, shr .u64 y ((m + 1 : Nat) : Int) = y / 2 ^ (m + 1) := fun y => by unfold shr; rw [show min (((m + 1 : Nat) : Int).toNat) IntKind.u64.bits = m + 1 by simp [IntKind.bits]; omega]
    have e3 : ∀ y : Int, shr .u64 y (m : Int) = y / 2 ^ m := fun y => by unfold shr; rw [show min ((m : Int).toNat) IntKind.u64.bits = m by simp [IntKind.bits]; omega]
    have key : ∀ y : Int, 0 ≤ y → y ≤ 9223372036854775808 → 0 ≤ y / 2 ^ (m + 1) ∧ y / 2 ^ (m + 1) ≤ 4611686018427387904 := by
      intro y h0 h1
      refine ⟨Int.ediv_nonneg h0 (by omega), ?_⟩
      have := Int.ediv_lt_of_lt_mul (a := y) (b := 4611686018427387905) (c := 2 ^ (m + 1)) (by omega) (by omega)
      omega
    rw [if_neg (by omega)]
    by_cases c : x < 0
    · have e4 : IntKind.u64.wrap (IntKind.u64.wrap (wrap64 (-wrap64 (x + 1))) + 1) = -x := by rw [wrapu64, wrapu64]; unfold wrap64; omega
      rw [if_pos c, e4]
      simp only [aviaryref01_Shift.j0]
      rw [if_pos (by omega), e1, if_pos (by omega), e2, e3, if_pos c, if_pos c, wrapu64]
      have hk := key (-x) (by omega) (by omega)
      have hr := rdivI_half (-x) m (by omega)
      have hh := Int.tmod_eq_emod_of_nonneg (a := -x / 2 ^ m) (b := 2) (Int.ediv_nonneg (by omega) (by omega))
      rw [hh]
      have hx2 : rdivI x (m + 1) = - rdivI (-x) (m + 1) := by rw [rdivI_neg]; omega
      rw [hx2, hr]
      by_cases d : -x / 2 ^ m % 2 = 1
      · rw [if_pos d, if_pos d]; congr 1; unfold wrap64; omega
      · rw [if_neg d, if_neg d]; congr 1; unfold wrap64; omega
    · have e4 : IntKind.u64.wrap x = x := by rw [wrapu64]; omega
      rw [if_neg c, e4]
      simp only [aviaryref01_Shift.j0]
      rw [if_pos (by omega), e1, if_pos (by omega), e2, e3, if_neg c, if_neg c, wrapu64]
      have hk := key x (by omega) (by omega)
      have hr := rdivI_half x m (by omega)
      have hh := Int.tmod_eq_emod_of_nonneg (a := x / 2 ^ m) (b := 2) (Int.ediv_nonneg (by omega) (by omega))
      rw [hh, hr]
      by_cases d : x / 2 ^ m % 2 = 1
      · rw [if_pos d, if_pos d]; congr 1; unfold wrap64; omega
      · rw [if_neg d, if_neg d]; congr 1; unfold wrap64; omega
theorem Mul_eq (a b : Int) : sat_Mul.f a b = some (mulI a b) := by
  unfold sat_Mul.f mulI
  have h := clamp_prod a b
  rw [Clamp_eq, Clamp_eq]; simp only [Option.bind_some]
  rw [wrap64_id (by omega) (by omega), Shift_eq ⟨by omega, by omega⟩]; simp only [Option.bind_some]
  rw [Clamp_eq]; rfl
theorem rMul_eq {k : Nat} (hk : 0 < k) (a b : Int) : aviaryref01_Mul.f k a b = some (mulI a b) := by
  unfold aviaryref01_Mul.f mulI
  have h := clamp_prod a b
  rw [rClamp_eq, rClamp_eq]; simp only [Option.bind_some]
  rw [wrap64_id (by omega) (by omega), rShift_eq hk ⟨by omega, by omega⟩]; simp only [Option.bind_some]
  rw [rClamp_eq]; rfl
theorem Cos_eq {k : Nat} (hk : 1 < k) (n : Int) : curve_Cos.f k n = some (cosI n) := by
  obtain ⟨k, rfl⟩ : ∃ m, k = m + 2 := ⟨k - 2, by omega⟩
  have lo : ∀ (j : Nat) (m : Int), 0 ≤ m % 16 → m % 16 ≤ 8 → curve_Cos.f (j + 1) m = some (cosI m) := by
    intro j m h0 h1
    simp only [curve_Cos.f]
    rw [bits15]
    unfold cosI
    generalize m % 16 = i at *
    obtain rfl | rfl | rfl | rfl | rfl | rfl | rfl | rfl | rfl : i = 0 ∨ i = 1 ∨ i = 2 ∨ i = 3 ∨ i = 4 ∨ i = 5 ∨ i = 6 ∨ i = 7 ∨ i = 8 := by omega
    all_goals first | rfl | (rw [if_neg (by decide), if_pos (by decide)]; decide +kernel)
  by_cases c : n % 16 ≤ 8
  · exact lo (k + 1) n (by omega) c
  · rw [show k + 2 = (k + 1) + 1 from rfl]
    have h2 := lo k (16 - n % 16) (by omega) (by omega)
    generalize k + 1 = j at *
    simp only [curve_Cos.f]
    rw [bits15, if_neg (by omega), if_neg (by omega), wrap64_id (by omega) (by omega), h2]
    simp only [Option.bind_some]
    have hb : n % 16 < 16 := by omega
    unfold cosI
    generalize n % 16 = i at *
    obtain rfl | rfl | rfl | rfl | rfl | rfl | rfl : i = 9 ∨ i = 10 ∨ i = 11 ∨ i = 12 ∨ i = 13 ∨ i = 14 ∨ i = 15 := by omega
    all_goals first | rfl | decide +kernel
theorem Sin_eq {k : Nat} (hk : 1 < k) (n : Int) : curve_Sin.f k n = some (sinI n) := by
  unfold curve_Sin.f
  rw [bits15, wrap64_id (by omega) (by omega), Cos_eq hk]; simp only [Option.bind_some]
  unfold cosI sinI
  obtain h | h | h | h | h | h | h | h | h | h | h | h | h | h | h | h : n % 16 = 0 ∨ n % 16 = 1 ∨ n % 16 = 2 ∨ n % 16 = 3 ∨ n % 16 = 4 ∨ n % 16 = 5 ∨ n % 16 = 6 ∨ n % 16 = 7 ∨ n % 16 = 8 ∨ n % 16 = 9 ∨ n % 16 = 10 ∨ n % 16 = 11 ∨ n % 16 = 12 ∨ n % 16 = 13 ∨ n % 16 = 14 ∨ n % 16 = 15 := by omega
  all_goals (have e : (n % 16 - 4) % 16 = (n % 16 + 12) % 16 := by omega
             rw [e, h]; first | rfl | decide +kernel)
theorem sixteenth_eq {n : Int} (h : -9223372036854775808 ≤ n ∧ n ≤ 9223372036854775807) : aviaryref03_sixteenth.f n = some (n % 16) := by
  unfold aviaryref03_sixteenth.f
  have e := Int.tmod_eq_emod (a := n) (b := 16)
  have e2 : wrap64 (Int.tmod n 16 + 16) = Int.tmod n 16 + 16 := by
    rw [e]; split <;> exact wrap64_id (by omega) (by omega)
  rw [e2, Int.tmod_eq_emod_of_nonneg (a := Int.tmod n 16 + 16) (by rw [e]; split <;> omega), e]
  congr 1
  split <;> omega
theorem rCos_eq {n : Int} (h : -9223372036854775808 ≤ n ∧ n ≤ 9223372036854775807) : aviaryref03_Cos.f n = some (cosI n) := by
  unfold aviaryref03_Cos.f
  simp only [Option.bind_some]
  rw [sixteenth_eq h]; simp only [Option.bind_some]
  rw [if_pos (by omega), if_pos (by simp; omega)]
  rfl
theorem rSin_eq {n : Int} (h : -9223372036854775808 ≤ n ∧ n ≤ 9223372036854775807) : aviaryref03_Sin.f n = some (sinI n) := by
  unfold aviaryref03_Sin.f
  simp only [Option.bind_some]
  rw [sixteenth_eq h]; simp only [Option.bind_some]
  rw [if_pos (by omega), if_pos (by simp; omega)]
  rfl

theorem Same_l0 {a b : List Int} (hl : a.length = b.length) (hb : a.length ≤ 4611686018427387904) (d : Nat) : ∀ (k : Nat) (i : Int), 0 ≤ i → (a.length : Int) - i = d → d < k →
    aviaryref04_Same.l0 k a b i = some (decide (a.drop i.toNat = b.drop i.toNat)) := by
  induction d with
  | zero =>
    intro k i h0 hd hk
    obtain ⟨k, rfl⟩ : ∃ m, k = m + 1 := ⟨k - 1, by omega⟩
    simp only [aviaryref04_Same.l0]
    rw [if_neg (by omega), drop_len (by omega), drop_len (by omega)]
    simp
  | succ d ih =>
    intro k i h0 hd hk
    obtain ⟨k, rfl⟩ : ∃ m, k = m + 1 := ⟨k - 1, by omega⟩
    simp only [aviaryref04_Same.l0]
    rw [if_pos (by omega), if_pos h0, if_pos (by omega), drop_rd (l := a) h0 (by omega), drop_rd (l := b) h0 (by omega)]
    by_cases c : rd a i = rd b i
    · rw [if_pos c, wrap64_id (x := i + 1) (by omega) (by omega), ih k (i + 1) (by omega) (by omega) (by omega), c]
      simp
    · rw [if_neg c]
      simp [c]
theorem Same_eq {k : Nat} {a b : List Int} (hb : a.length ≤ 4611686018427387904) (hk : a.length < k) : aviaryref04_Same.f k a b = some (decide (a = b)) := by
  unfold aviaryref04_Same.f
  by_cases c : a.length = b.length
  · rw [if_pos (by omega), Same_l0 c hb a.length k 0 (by omega) (by omega) hk]
    rfl
  · rw [if_neg (by omega)]
    have : a ≠ b := fun h => c (by rw [h])
    simp [this]
theorem Same_refl {k : Nat} {a : List Int} (hb : a.length ≤ 4611686018427387904) (hk : a.length < k) : aviaryref04_Same.f k a a = some true := by rw [Same_eq hb hk]; simp
theorem pair_eq {k : Nat} (hk : 1 < k) (a b n : Int) : turn_pair_by.f k a b n = some (turnA a b n, turnB a b n) := by
  have m1 := mulI_range a (cosI n)
  have m2 := mulI_range b (sinI n)
  have m3 := mulI_range a (sinI n)
  have m4 := mulI_range b (cosI n)
  unfold turn_pair_by.f turnA turnB
  rw [Cos_eq hk, Sin_eq hk]; simp only [Option.bind_some]
  simp only [Mul_eq, Option.bind_some]
  rw [wrap64_id (by omega) (by omega), Clamp_eq]; simp only [Option.bind_some]
  rw [wrap64_id (by omega) (by omega), Clamp_eq]; rfl
theorem Turn_l0 {p : Int} (hp : 0 ≤ p ∧ p ≤ 1000) (d : Nat) : ∀ (k : Nat) (x acc : List Int) (n : Int), x.length = 2 * d → d + 2 < k → acc.length + x.length ≤ 17592186044415 → 0 ≤ n → n + 1000 * (d : Int) ≤ 4611686018427387904 →
    turn_Turn.l0 k x p acc n = some (acc ++ turnL p n x, 0) := by
  induction d with
  | zero =>
    intro k x acc n hx hk ha h0 h1
    obtain ⟨k, rfl⟩ : ∃ m, k = m + 1 := ⟨k - 1, by omega⟩
    have : x = [] := List.eq_nil_of_length_eq_zero (by omega)
    subst this
    simp only [turn_Turn.l0]
    rw [if_neg (by simp)]
    simp [turnL]
  | succ d ih =>
    intro k x acc n hx hk ha h0 h1
    obtain ⟨k, rfl⟩ : ∃ m, k = m + 1 := ⟨k - 1, by omega⟩
    match x, hx with
    | a :: b :: l, hx =>
      have hl : l.length = 2 * d := by simp only [List.length_cons] at hx; omega
      have e0 : rd (a :: b :: l) 0 = a := rfl
      have e1 : rd (a :: b :: l) 1 = b := rfl
      simp only [List.length_cons] at ha
      simp only [turn_Turn.l0]
      rw [e0, e1, pair_eq (by omega)]
      simp only [Option.bind_some, List.length_cons, List.length_nil, List.drop_succ_cons, List.drop_zero]
      rw [if_pos (by omega), if_pos (by omega), if_pos (by omega), if_pos (by omega), if_pos (by omega), wrap64_id (by omega) (by omega), ih k l _ (n + p) hl (by omega) (by simp; omega) (by omega) (by omega)]
      simp [turnL]
theorem Turn_eq {k : Nat} {x : List Int} {p : Int} (hx : x.length ≤ 17592186044415) (hk : x.length + 5 < k) : turn_Turn.f k x p = some (if x.length % 2 ≠ 0 then ([], 21) else if p < 0 ∨ p > 1000 then ([], 20) else (turnI x p, 0)) := by
  unfold turn_Turn.f
  by_cases c : x.length % 2 = 0
  · rw [if_pos (by omega), if_neg (show ¬ x.length % 2 ≠ 0 by omega)]
    by_cases c1 : p < 0
    · rw [if_pos c1, if_pos (Or.inl c1)]
    · rw [if_neg c1]
      by_cases c2 : p > 1000
      · rw [if_pos c2, if_pos (Or.inr c2)]
      · rw [if_neg c2, if_pos (by omega), if_pos (by omega), if_neg (show ¬ (p < 0 ∨ p > 1000) by omega), Turn_l0 ⟨by omega, by omega⟩ (x.length / 2) k x [] p (by omega) (by omega) (by simp; omega) (by omega) (by omega)]
        rfl
  · rw [if_neg (by omega), if_pos (by omega)]
theorem rTurn_l0 {p : Int} {x : List Int} (hp : 0 ≤ p ∧ p ≤ 1000) (hx2 : x.length % 2 = 0) (hb : x.length ≤ 17592186044415) (d : Nat) : ∀ (k j : Nat) (acc : List Int) (n : Int), x.length = 2 * j + 2 * d → d + 2 < k → acc.length ≤ 2 * j → n = p * ((j : Int) + 1) → 0 ≤ n → n + 1000 * (d : Int) ≤ 4611686018427387904 →
    aviaryref06_Turn.l0 k x p acc (j : Int) = some (acc ++ turnL p n (x.drop (2 * j)), 0) := by
  induction d with
  | zero =>
    intro k j acc n hl hk ha hn h0 h1
    obtain ⟨k, rfl⟩ : ∃ m, k = m + 1 := ⟨k - 1, by omega⟩
    simp only [aviaryref06_Turn.l0]
    rw [wrap64_id (x := (x.length : Int) / 2) (by omega) (by omega), if_neg (by omega), List.drop_eq_nil_of_le (by omega)]
    simp [turnL]
  | succ d ih =>
    intro k j acc n hl hk ha hn h0 h1
    obtain ⟨k, rfl⟩ : ∃ m, k = m + 1 := ⟨k - 1, by omega⟩
    have ed : x.drop (2 * j) = rd x (2 * (j : Int)) :: rd x (2 * (j : Int) + 1) :: x.drop (2 * (j + 1)) := by
      have h1 := drop_rd (l := x) (i := 2 * (j : Int)) (by omega) (by omega)
      have h2 := drop_rd (l := x) (i := 2 * (j : Int) + 1) (by omega) (by omega)
      rw [show (2 * (j : Int)).toNat = 2 * j by omega] at h1
      rw [show (2 * (j : Int) + 1 + 1).toNat = 2 * (j + 1) by omega] at h2
      rw [h1, h2]
    have hr := @ih k (j + 1) (acc ++ [turnA (rd x (2 * (j : Int))) (rd x (2 * (j : Int) + 1)) n] ++ [turnB (rd x (2 * (j : Int))) (rd x (2 * (j : Int) + 1)) n]) (n + p) (by omega) (by omega) (by simp; omega) (by rw [hn]; simp only [Int.natCast_add, Int.mul_add]; omega) (by omega) (by omega)
    have ec : (((j + 1 : Nat)) : Int) = (j : Int) + 1 := by omega
    rw [ec] at hr
    have hb1 : -9223372036854775808 ≤ n ∧ n ≤ 9223372036854775807 := by omega
    clear ih
    simp only [aviaryref06_Turn.l0]
    rw [wrap64_id (x := (x.length : Int) / 2) (by omega) (by omega), wrap64_id (x := 2 * (j : Int)) (by omega) (by omega), wrap64_id (x := 2 * (j : Int) + 1) (by omega) (by omega), wrap64_id (x := (j : Int) + 1) (by omega) (by omega), ← hn, wrap64_id hb1.1 hb1.2]
    have m1 := mulI_range (rd x (2 * (j : Int))) (cosI n)
    have m2 := mulI_range (rd x (2 * (j : Int) + 1)) (sinI n)
    have m3 := mulI_range (rd x (2 * (j : Int))) (sinI n)
    have m4 := mulI_range (rd x (2 * (j : Int) + 1)) (cosI n)
    rw [if_pos (by omega), if_pos (by omega), if_pos (by omega), if_pos (by omega), if_pos (by omega), rCos_eq hb1, rSin_eq hb1]
    simp only [Option.bind_some]
    simp only [rMul_eq (show 0 < k by omega), Option.bind_some]
    rw [wrap64_id (x := mulI (rd x (2 * (j : Int))) (cosI n) - mulI (rd x (2 * (j : Int) + 1)) (sinI n)) (by omega) (by omega), rClamp_eq]; simp only [Option.bind_some]
    rw [wrap64_id (x := mulI (rd x (2 * (j : Int))) (sinI n) + mulI (rd x (2 * (j : Int) + 1)) (cosI n)) (by omega) (by omega), rClamp_eq]; simp only [Option.bind_some]
    rw [if_pos (by omega), if_pos (by simp; omega)]
    have hA : clampI (mulI (rd x (2 * (j : Int))) (cosI n) - mulI (rd x (2 * (j : Int) + 1)) (sinI n)) = turnA (rd x (2 * (j : Int))) (rd x (2 * (j : Int) + 1)) n := rfl
    have hB : clampI (mulI (rd x (2 * (j : Int))) (sinI n) + mulI (rd x (2 * (j : Int) + 1)) (cosI n)) = turnB (rd x (2 * (j : Int))) (rd x (2 * (j : Int) + 1)) n := rfl
    rw [hA, hB, hr, ed]
    simp [turnL]
theorem rTurn_eq {k : Nat} {x : List Int} {p : Int} (hx : x.length ≤ 17592186044415) (hk : x.length + 5 < k) : aviaryref06_Turn.f k x p = some (if x.length % 2 ≠ 0 then ([], 21) else if p < 0 ∨ p > 1000 then ([], 20) else (turnI x p, 0)) := by
  unfold aviaryref06_Turn.f
  by_cases c : x.length % 2 = 0
  · rw [if_pos (by omega), if_neg (show ¬ x.length % 2 ≠ 0 by omega)]
    by_cases c1 : p < 0
    · rw [if_pos c1, if_pos (Or.inl c1)]
    · rw [if_neg c1]
      by_cases c2 : p > 1000
      · rw [if_pos c2, if_pos (Or.inr c2)]
      · rw [if_neg c2, if_neg (by omega)]
        have h := rTurn_l0 (p := p) ⟨by omega, by omega⟩ c hx (x.length / 2) k 0 [] p (by omega) (by omega) (by simp) (by simp) (by omega) (by omega)
        exact h
  · rw [if_neg (by omega), if_pos (by omega)]
theorem Heads_l0 {n : Nat} {p : Int} (hp : 0 ≤ p ∧ p ≤ 1000) (hn0 : 0 < n) (hn2 : n % 2 = 0) (r : Nat) : ∀ (k : Nat) (x acc : List Int), x.length = r * n → r + n + 8 < k → acc.length + x.length ≤ 17592186044415 →
    turn_Heads.l0 k x p (n : Int) acc = some (acc ++ partsT n p r x, 0) := by
  induction r with
  | zero =>
    intro k x acc hx hk ha
    obtain ⟨k, rfl⟩ : ∃ m, k = m + 1 := ⟨k - 1, by omega⟩
    simp only [turn_Heads.l0]
    rw [if_neg (by omega)]
    simp [partsT]
  | succ r ih =>
    intro k x acc hx hk ha
    obtain ⟨k, rfl⟩ : ∃ m, k = m + 1 := ⟨k - 1, by omega⟩
    have hx' : x.length = r * n + n := by rw [hx, Nat.succ_mul]
    have ht : (x.take n).length = n := by rw [List.length_take]; omega
    have hL := turnI_len_le (x.take n) p
    simp only [turn_Heads.l0]
    rw [if_pos (by omega), if_pos (by omega), if_pos (by omega), Int.toNat_natCast, Turn_eq (by omega) (by omega), if_neg (show ¬ (x.take n).length % 2 ≠ 0 by omega), if_neg (show ¬ (p < 0 ∨ p > 1000) by omega)]
    simp only [Option.bind_some, if_true]
    rw [if_pos (by omega), ih k _ _ (by rw [List.length_drop]; omega) (by omega) (by rw [List.length_append, List.length_drop]; omega)]
    simp [partsT]
def headsR (x : List Int) (heads p : Int) : List Int × Int :=
  if heads < 1 then ([], 20) else if (x.length : Int) % heads ≠ 0 ∨ (x.length : Int) / heads % 2 ≠ 0 then ([], 21) else if p < 0 ∨ p > 1000 then ([], 20) else (partsT ((x.length : Int) / heads).toNat p heads.toNat x, 0)
theorem Heads_eq {k : Nat} {x : List Int} {heads p : Int} (hh : heads ≤ 9223372036854775807) (hx : x.length ≤ 17592186044415) (hk : x.length + x.length + 30 < k) : turn_Heads.f k x heads p = some (headsR x heads p) := by
  obtain ⟨k, rfl⟩ : ∃ m, k = m + 1 := ⟨k - 1, by omega⟩
  unfold turn_Heads.f headsR
  by_cases c : heads < 1
  · rw [if_pos c, if_pos c]
  · rw [if_neg c, if_neg c, if_neg (show ¬ heads = 0 by omega)]
    have q0 : 0 ≤ (x.length : Int) / heads := Int.ediv_nonneg (by omega) (by omega)
    have q1 : (x.length : Int) / heads ≤ (x.length : Int) := Int.ediv_le_self _ (by omega)
    have q2 := Int.mul_ediv_add_emod (x.length : Int) heads
    have q3 := Int.emod_nonneg (x.length : Int) (show heads ≠ 0 by omega)
    have q4 : 0 ≤ heads * ((x.length : Int) / heads) := Int.mul_nonneg (by omega) q0
    rw [Int.mul_comm] at q2 q4
    generalize (x.length : Int) % heads = m at *
    generalize hq : (x.length : Int) / heads = q at *
    rw [wrap64_id (x := q) (by omega) (by omega), wrap64_id (x := q * heads) (by omega) (by omega)]
    have bad : turn_Heads.j0 (k + 1) x p q true = some ([], 21) := by simp [turn_Heads.j0]
    by_cases c1 : m = 0
    · rw [if_pos (show q * heads = (x.length : Int) by omega)]
      have et : Int.tmod q 2 = q % 2 := Int.tmod_eq_emod_of_nonneg q0
      rw [et]
      by_cases c2 : q % 2 = 0
      · rw [show ((q % 2) != 0) = false by simp [c2], if_neg (show ¬ (m ≠ 0 ∨ q % 2 ≠ 0) by omega)]
        simp only [turn_Heads.j0]
        rw [if_neg (by decide)]
        by_cases c3 : q = 0
        · have hx0 : x = [] := List.eq_nil_of_length_eq_zero (by rw [c3] at q2; omega)
          subst hx0
          rw [if_pos c3, Turn_eq (by simp) (by simp; omega), if_neg (by simp), c3]
          simp only [Option.bind_some]
          by_cases c4 : p < 0 ∨ p > 1000
          · rw [if_pos c4, if_pos c4]
          · rw [if_neg c4, if_neg c4]
            simp [partsT_nil, turnI, turnL]
        · rw [if_neg c3]
          obtain ⟨n, rfl⟩ := Int.eq_ofNat_of_zero_le q0
          obtain ⟨r, rfl⟩ := Int.eq_ofNat_of_zero_le (show 0 ≤ heads by omega)
          have hl : x.length = r * n := by
            have : (x.length : Int) = ((r * n : Nat) : Int) := by rw [Int.natCast_mul, Int.mul_comm]; omega
            omega
          have hrl : r ≤ x.length := by rw [hl]; exact Nat.le_mul_of_pos_right _ (by omega)
          by_cases c4 : p < 0 ∨ p > 1000
          · rw [if_pos c4]
            obtain ⟨k, rfl⟩ : ∃ m, k = m + 1 := ⟨k - 1, by omega⟩
            have ht : (x.take n).length = n := by rw [List.length_take]; omega
            simp only [turn_Heads.l0]
            rw [if_pos (by omega), if_pos (by omega), if_pos (by omega), Int.toNat_natCast, Turn_eq (by omega) (by omega), if_neg (show ¬ (x.take n).length % 2 ≠ 0 by omega), if_pos c4]
            simp only [Option.bind_some]
            rw [if_neg (by decide)]
          · rw [if_neg c4, Heads_l0 ⟨by omega, by omega⟩ (by omega) (by omega) r k x [] hl (by omega) (by simp; omega)]
            rfl
      · rw [show ((q % 2) != 0) = true by simp [c2], bad, if_pos (Or.inr c2)]
    · rw [if_neg (show ¬ q * heads = (x.length : Int) by omega), bad, if_pos (Or.inl c1)]
theorem rHeads_l0 {n r : Nat} {p : Int} {x : List Int} (hp : 0 ≤ p ∧ p ≤ 1000) (hn0 : 0 < n) (hn2 : n % 2 = 0) (hx : x.length = r * n) (hb : x.length ≤ 17592186044415) (d : Nat) : ∀ (k j : Nat) (acc : List Int), j + d = r → 2 * d + n + 8 < k → acc.length ≤ j * n →
    aviaryref06_Heads.l0 k x (r : Int) p (n : Int) acc (j : Int) = some (acc ++ partsT n p d (x.drop (j * n)), 0) := by
  have hrl : r ≤ x.length := by rw [hx]; exact Nat.le_mul_of_pos_right _ hn0
  induction d with
  | zero =>
    intro k j acc hd hk ha
    obtain ⟨k, rfl⟩ : ∃ m, k = m + 2 := ⟨k - 2, by omega⟩
    simp only [aviaryref06_Heads.l0]
    rw [if_neg (by omega)]
    simp [aviaryref06_Heads.j2, partsT]
  | succ d ih =>
    intro k j acc hd hk ha
    obtain ⟨k, rfl⟩ : ∃ m, k = m + 2 := ⟨k - 2, by omega⟩
    have h1 : (j + 1) * n ≤ r * n := Nat.mul_le_mul_right _ (by omega)
    have h2 : (j + 1) * n = j * n + n := Nat.succ_mul _ _
    have b0 : j < 9223372036854775807 := by omega
    have b1 : j * n ≤ 9223372036854775807 := by omega
    have b2 : (j + 1) * n ≤ 9223372036854775807 := by omega
    have ed : (x.take ((j + 1) * n)).drop (j * n) = (x.drop (j * n)).take n := by rw [List.drop_take, show (j + 1) * n - j * n = n by omega]
    have ht : ((x.drop (j * n)).take n).length = n := by rw [List.length_take, List.length_drop]; omega
    have hL := turnI_len_le ((x.drop (j * n)).take n) p
    simp only [aviaryref06_Heads.l0]
    rw [if_pos (by omega), show decide ((j : Int) ≤ (x.length : Int)) = true by simp; omega]
    simp only [aviaryref06_Heads.j2, if_true]
    rw [wrapN_mul b1, wrapN_succ b0, wrapN_mul b2, if_pos (by omega), if_pos (by omega), if_pos (by omega), Int.toNat_natCast, Int.toNat_natCast, ed, rTurn_eq (by omega) (by omega), if_neg (show ¬ ((x.drop (j * n)).take n).length % 2 ≠ 0 by omega), if_neg (show ¬ (p < 0 ∨ p > 1000) by omega)]
    simp only [Option.bind_some, if_true]
    rw [if_pos (by omega), ih k (j + 1) _ (by omega) (by omega) (by rw [List.length_append]; omega)]
    simp only [partsT, List.drop_drop, List.append_assoc]
    rw [h2]
theorem rHeads_eq {k : Nat} {x : List Int} {heads p : Int} (hh : heads ≤ 9223372036854775807) (hx : x.length ≤ 17592186044415) (hk : x.length + x.length + x.length + 50 < k) : aviaryref06_Heads.f k x heads p = some (headsR x heads p) := by
  obtain ⟨k, rfl⟩ : ∃ m, k = m + 1 := ⟨k - 1, by omega⟩
  unfold aviaryref06_Heads.f headsR
  by_cases c : heads < 1
  · rw [if_pos c, if_pos c]
  · rw [if_neg c, if_neg c, if_neg (show ¬ heads = 0 by omega)]
    have q0 : 0 ≤ (x.length : Int) / heads := Int.ediv_nonneg (by omega) (by omega)
    have q1 : (x.length : Int) / heads ≤ (x.length : Int) := Int.ediv_le_self _ (by omega)
    have q2 := Int.mul_ediv_add_emod (x.length : Int) heads
    rw [Int.mul_comm] at q2
    generalize (x.length : Int) % heads = m at *
    generalize hq : (x.length : Int) / heads = q at *
    have bad : aviaryref06_Heads.j0 (k + 1) x heads p true = some ([], 21) := by simp [aviaryref06_Heads.j0]
    by_cases c1 : m = 0
    · rw [if_pos c1]
      have et : Int.tmod q 2 = q % 2 := Int.tmod_eq_emod_of_nonneg q0
      rw [wrap64_id (x := q) (by omega) (by omega), et]
      by_cases c2 : q % 2 = 0
      · rw [show ((q % 2) != 0) = false by simp [c2], if_neg (show ¬ (m ≠ 0 ∨ q % 2 ≠ 0) by omega)]
        simp only [aviaryref06_Heads.j0]
        rw [if_neg (by decide), if_neg (show ¬ heads = 0 by omega), hq, wrap64_id (x := q) (by omega) (by omega)]
        by_cases c4 : p < 0 ∨ p > 1000
        · rw [if_pos c4]
          obtain ⟨k, rfl⟩ : ∃ m, k = m + 2 := ⟨k - 2, by omega⟩
          have w0 : wrap64 (0 * q) = 0 := by rw [Int.zero_mul]; decide +kernel
          have w1 : wrap64 (wrap64 (0 + 1) * q) = q := by rw [show wrap64 (0 + 1) = 1 from by decide +kernel, Int.one_mul]; exact wrap64_id (by omega) (by omega)
          have hlen : ((x.take q.toNat).drop (0 : Int).toNat).length = q.toNat := by simp; omega
          have hT := @rTurn_eq (k + 0) ((x.take q.toNat).drop (0 : Int).toNat) p (by omega) (by omega)
          rw [if_neg (by omega), if_pos c4] at hT
          simp only [aviaryref06_Heads.l0]
          rw [if_pos (by omega), show decide ((0 : Int) ≤ (x.length : Int)) = true by simp]
          simp only [aviaryref06_Heads.j2, if_true]
          rw [w0, w1, if_pos (by omega), if_pos q0, if_pos q1]
          simp only [Nat.add_zero] at hT
          rw [hT]
          simp only [Option.bind_some]
          rw [if_neg (by decide)]
        · rw [if_neg c4]
          obtain ⟨r, rfl⟩ := Int.eq_ofNat_of_zero_le (show 0 ≤ heads by omega)
          by_cases c3 : q = 0
          · have hx0 : x = [] := List.eq_nil_of_length_eq_zero (by rw [c3] at q2; omega)
            subst hx0
            subst c3
            rw [Int.toNat_zero, partsT_nil]
            obtain ⟨k, rfl⟩ : ∃ m, k = m + 4 := ⟨k - 4, by omega⟩
            have w0 : ∀ z : Int, wrap64 (z * 0) = 0 := fun z => by rw [Int.mul_zero]; decide +kernel
            have w1 : wrap64 (0 + 1) = 1 := by decide +kernel
            have hT := @rTurn_eq (k + 2) [] p (by simp) (by simp; omega)
            rw [if_neg (by simp), if_neg c4] at hT
            rw [show k + 4 = ((k + 2) + 1) + 1 from rfl]
            simp only [aviaryref06_Heads.l0]
            rw [if_pos (by omega), show decide ((0 : Int) ≤ (([] : List Int).length : Int)) = true by simp]
            simp only [aviaryref06_Heads.j2, if_true]
            rw [w0, w0, w1, if_pos (by omega), if_pos (by omega), if_pos (by simp)]
            simp only [Int.toNat_zero, List.take_nil, List.drop_nil]
            rw [hT]
            simp only [Option.bind_some, if_true, turnI, turnL, List.append_nil, List.length_nil]
            rw [if_pos (by omega)]
            simp only [aviaryref06_Heads.l0]
            have ef : decide ((1 : Int) ≤ (([] : List Int).length : Int)) = false := by simp
            rw [ef]
            split <;> simp [aviaryref06_Heads.j2]
          · obtain ⟨n, rfl⟩ := Int.eq_ofNat_of_zero_le q0
            have hl : x.length = r * n := by
              have : (x.length : Int) = ((r * n : Nat) : Int) := by rw [Int.natCast_mul, Int.mul_comm]; omega
              omega
            have hrl : r ≤ x.length := by rw [hl]; exact Nat.le_mul_of_pos_right _ (by omega)
            have h := rHeads_l0 (p := p) ⟨by omega, by omega⟩ (show 0 < n by omega) (show n % 2 = 0 by omega) hl hx r k 0 [] (by omega) (by omega) (by simp)
            rw [Nat.zero_mul, List.drop_zero, List.nil_append] at h
            exact h
      · rw [show ((q % 2) != 0) = true by simp [c2], bad, if_pos (Or.inr c2)]
    · rw [if_neg c1, bad, if_pos (Or.inl c1)]
theorem TurnHeads : aviarylaw06_TurnHeads.Pure := by
  intro x heads p hx0 hx1 hx hh hp
  have h1 := (wf64 hh).2
  refine ⟨x.length + x.length + x.length + 100, ?_⟩
  unfold aviarylaw06_TurnHeads.f
  simp only [Option.bind_some, List.nil_append, List.length_nil, Nat.zero_add]
  rw [if_pos (by omega), Heads_eq h1 (by omega) (by omega), rHeads_eq h1 (by omega) (by omega)]
  simp only [Option.bind_some]
  have hl : (headsR x heads p).1.length ≤ x.length := by
    unfold headsR
    split
    · simp
    · split
      · simp
      · split
        · simp
        · exact partsT_len _ _ _ _
  rw [Same_refl (by omega) (by omega)]
  simp

end Go.Proofs.Ytnpecffgfanadaa.Pure
