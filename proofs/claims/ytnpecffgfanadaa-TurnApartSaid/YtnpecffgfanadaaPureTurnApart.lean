/- A head's part does not hang on the other head: for any two rows of one even length (at most 500) and any place below 1000. No condition. -/
import Derived.Test.YtnpecffgfanadaaPTurnApartx3
import Derived.Test.YtnpecffgfanadaaMSat
import Derived.Test.YtnpecffgfanadaaMCurve
import Derived.Test.YtnpecffgfanadaaMVec
import Derived.Test.YtnpecffgfanadaaMTurn
set_option linter.unusedVariables false
set_option linter.unusedSimpArgs false
namespace Go.Proofs.Ytnpecffgfanadaa.Pure
open Go Go.RowKit Go.Proofs.Ytnpecffgfanadaa.PTurnApart Go.Proofs.YtnpecffgfanadaaW.PrintWords Go.Proofs.YtnpecffgfanadaaW.PrintLast Go.Proofs.Ytnpecffgfanadaa.Mth
theorem Clamp_eq (x : Int) : sat_Clamp.f x = some (clampI x) := by unfold sat_Clamp.f; rw [clamp_f1]
theorem Shift_eq {x : Int} (hx : -9223372036854775808 ≤ x ∧ x ≤ 9223372036854775807) (n : Int) : sat_Shift.f x n = some (shiftI x n) := by
  unfold sat_Shift.f shiftI
  have hm : mx (mn n 62) 0 = (nclampI n : Int) := by unfold mx mn nclampI; (repeat' split) <;> omega
  have hm2 : nclampI n ≤ 62 := by unfold nclampI; split <;> omega
  rw [hm]
  generalize nclampI n = m at *
  cases m with
  | zero => rfl
  | succ m =>
    rw [if_neg (by omega), if_pos (by omega)]
    have e1 : ((m + 1 : Nat) : Int).toNat = m + 1 := by omega
    have e2 : (((m + 1 : Nat) : Int) - 1).toNat = m := by omega
    rw [e1, e2]
    have hp := pow2_pos m
    have hP := pow2_succ m
    have hl := pow2_le62 hm2
    rw [wrap64_id (x := 2 ^ (m + 1)) (by omega) (by omega), wrap64_id (x := 2 ^ (m + 1) - 1) (by omega) (by omega), wrap64_id (x := 2 ^ m) (by omega) (by omega), bits_mask64 x (m + 1) hm2]
    have hr := Int.emod_nonneg x (show (2 : Int) ^ (m + 1) ≠ 0 by omega)
    have hr2 := Int.emod_lt_of_pos x (pow2_pos (m + 1))
    have hq := Int.mul_ediv_add_emod x (2 ^ (m + 1))
    have hqb : -9223372036854775808 ≤ x / 2 ^ (m + 1) + 1 ∧ x / 2 ^ (m + 1) + 1 ≤ 9223372036854775807 := by
      have h1 : x / 2 ^ (m + 1) ≤ 4611686018427387904 := by
        have := Int.ediv_le_ediv (c := 2 ^ (m + 1)) (by omega) hx.2
        have h3 : 9223372036854775807 / (2 : Int) ^ (m + 1) ≤ 4611686018427387904 := by
          have := Int.ediv_lt_of_lt_mul (a := 9223372036854775807) (b := 4611686018427387905) (c := 2 ^ (m + 1)) (by omega) (by omega)
          omega
        omega
      have h2 : -9223372036854775808 ≤ x / 2 ^ (m + 1) := by
        refine Int.le_ediv_of_mul_le (by omega) ?_
        omega
      omega
    rw [wrap64_id hqb.1 hqb.2]
    have key := rdivI_floor x m
    by_cases c : x % 2 ^ (m + 1) > 2 ^ m
    · rw [if_pos c, key, if_pos (Or.inl c)]
    · rw [if_neg c]
      by_cases d : x % 2 ^ (m + 1) = 2 ^ m
      · rw [if_pos d]
        by_cases e : x > 0
        · rw [if_pos e, key, if_pos (Or.inr ⟨d, e⟩)]
        · rw [if_neg e, key, if_neg (by omega)]
      · rw [if_neg d, key, if_neg (by omega)]
theorem Mul_eq (a b : Int) : sat_Mul.f a b = some (mulI a b) := by
  unfold sat_Mul.f mulI
  have h := clamp_prod a b
  rw [Clamp_eq, Clamp_eq]; simp only [Option.bind_some]
  rw [wrap64_id (by omega) (by omega), Shift_eq ⟨by omega, by omega⟩]; simp only [Option.bind_some]
  rw [Clamp_eq]; rfl
theorem Cos_eq {k : Nat} (hk : 1 < k) (n : Int) : curve_Cos.f k n = some (cosI n) := by
  obtain ⟨k, rfl⟩ : ∃ m, k = m + 2 := ⟨k - 2, by omega⟩
  have lo : ∀ (j : Nat) (m : Int), 0 ≤ m % 16 → m % 16 ≤ 8 → curve_Cos.f (j + 1) m = some (cosI m) := by
    intro j m h0 h1
    simp only [curve_Cos.f]
    rw [bits15]
    unfold cosI
    generalize m % 16 = i at *
    obtain rfl | rfl | rfl | rfl | rfl | rfl | rfl | rfl | rfl : i = 0 ∨ i = 1 ∨ i = 2 ∨ i = 3 ∨ i = 4 ∨ i = 5 ∨ i = 6 ∨ i = 7 ∨ i = 8 := by omega
    all_goals first | rfl | (rw [if_neg (by decide), if_pos (by decide)]; decide +kernel)
  by_cases c : n % 16 ≤ 8
  · exact lo (k + 1) n (by omega) c
  · rw [show k + 2 = (k + 1) + 1 from rfl]
    have h2 := lo k (16 - n % 16) (by omega) (by omega)
    generalize k + 1 = j at *
    simp only [curve_Cos.f]
    rw [bits15, if_neg (by omega), if_neg (by omega), wrap64_id (by omega) (by omega), h2]
    simp only [Option.bind_some]
    have hb : n % 16 < 16 := by omega
    unfold cosI
    generalize n % 16 = i at *
    obtain rfl | rfl | rfl | rfl | rfl | rfl | rfl : i = 9 ∨ i = 10 ∨ i = 11 ∨ i = 12 ∨ i = 13 ∨ i = 14 ∨ i = 15 := by omega
    all_goals first | rfl | decide +kernel
theorem Sin_eq {k : Nat} (hk : 1 < k) (n : Int) : curve_Sin.f k n = some (sinI n) := by
  unfold curve_Sin.f
  rw [bits15, wrap64_id (by omega) (by omega), Cos_eq hk]; simp only [Option.bind_some]
  unfold cosI sinI
  obtain h | h | h | h | h | h | h | h | h | h | h | h | h | h | h | h : n % 16 = 0 ∨ n % 16 = 1 ∨ n % 16 = 2 ∨ n % 16 = 3 ∨ n % 16 = 4 ∨ n % 16 = 5 ∨ n % 16 = 6 ∨ n % 16 = 7 ∨ n % 16 = 8 ∨ n % 16 = 9 ∨ n % 16 = 10 ∨ n % 16 = 11 ∨ n % 16 = 12 ∨ n % 16 = 13 ∨ n % 16 = 14 ∨ n % 16 = 15 := by omega
  all_goals (have e : (n % 16 - 4) % 16 = (n % 16 + 12) % 16 := by omega
             rw [e, h]; first | rfl | decide +kernel)
theorem Same_l0 {a b : List Int} (hl : a.length = b.length) (hb : a.length ≤ 4611686018427387904) (d : Nat) : ∀ (k : Nat) (i : Int), 0 ≤ i → (a.length : Int) - i = d → d < k →
    aviaryref04_Same.l0 k a b i = some (decide (a.drop i.toNat = b.drop i.toNat)) := by
  induction d with
  | zero =>
    intro k i h0 hd hk
    obtain ⟨k, rfl⟩ : ∃ m, k = m + 1 := ⟨k - 1, by omega⟩
    simp only [aviaryref04_Same.l0]
    rw [if_neg (by omega), drop_len (by omega), drop_len (by omega)]
    simp
  | succ d ih =>
    intro k i h0 hd hk
    obtain ⟨k, rfl⟩ : ∃ m, k = m + 1 := ⟨k - 1, by omega⟩
    simp only [aviaryref04_Same.l0]
    rw [if_pos (by omega), if_pos h0, if_pos (by omega), drop_rd (l := a) h0 (by omega), drop_rd (l := b) h0 (by omega)]
    by_cases c : rd a i = rd b i
    · rw [if_pos c, wrap64_id (x := i + 1) (by omega) (by omega), ih k (i + 1) (by omega) (by omega) (by omega), c]
      simp
    · rw [if_neg c]
      simp [c]
theorem Same_eq {k : Nat} {a b : List Int} (hb : a.length ≤ 4611686018427387904) (hk : a.length < k) : aviaryref04_Same.f k a b = some (decide (a = b)) := by
  unfold aviaryref04_Same.f
  by_cases c : a.length = b.length
  · rw [if_pos (by omega), Same_l0 c hb a.length k 0 (by omega) (by omega) hk]
    rfl
  · rw [if_neg (by omega)]
    have : a ≠ b := fun h => c (by rw [h])
    simp [this]
theorem Same_refl {k : Nat} {a : List Int} (hb : a.length ≤ 4611686018427387904) (hk : a.length < k) : aviaryref04_Same.f k a a = some true := by rw [Same_eq hb hk]; simp
theorem pair_eq {k : Nat} (hk : 1 < k) (a b n : Int) : turn_pair_by.f k a b n = some (turnA a b n, turnB a b n) := by
  have m1 := mulI_range a (cosI n)
  have m2 := mulI_range b (sinI n)
  have m3 := mulI_range a (sinI n)
  have m4 := mulI_range b (cosI n)
  unfold turn_pair_by.f turnA turnB
  rw [Cos_eq hk, Sin_eq hk]; simp only [Option.bind_some]
  simp only [Mul_eq, Option.bind_some]
  rw [wrap64_id (by omega) (by omega), Clamp_eq]; simp only [Option.bind_some]
  rw [wrap64_id (by omega) (by omega), Clamp_eq]; rfl
theorem Turn_l0 {p : Int} (hp : 0 ≤ p ∧ p ≤ 1000) (d : Nat) : ∀ (k : Nat) (x acc : List Int) (n : Int), x.length = 2 * d → d + 2 < k → acc.length + x.length ≤ 17592186044415 → 0 ≤ n → n + 1000 * (d : Int) ≤ 4611686018427387904 →
    turn_Turn.l0 k x p acc n = some (acc ++ turnL p n x, 0) := by
  induction d with
  | zero =>
    intro k x acc n hx hk ha h0 h1
    obtain ⟨k, rfl⟩ : ∃ m, k = m + 1 := ⟨k - 1, by omega⟩
    have : x = [] := List.eq_nil_of_length_eq_zero (by omega)
    subst this
    simp only [turn_Turn.l0]
    rw [if_neg (by simp)]
    simp [turnL]
  | succ d ih =>
    intro k x acc n hx hk ha h0 h1
    obtain ⟨k, rfl⟩ : ∃ m, k = m + 1 := ⟨k - 1, by omega⟩
    match x, hx with
    | a :: b :: l, hx =>
      have hl : l.length = 2 * d := by simp only [List.length_cons] at hx; omega
      have e0 : rd (a :: b :: l) 0 = a := rfl
      have e1 : rd (a :: b :: l) 1 = b := rfl
      simp only [List.length_cons] at ha
      simp only [turn_Turn.l0]
      rw [e0, e1, pair_eq (by omega)]
      simp only [Option.bind_some, List.length_cons, List.length_nil, List.drop_succ_cons, List.drop_zero]
      rw [if_pos (by omega), if_pos (by omega), if_pos (by omega), if_pos (by omega), if_pos (by omega), wrap64_id (by omega) (by omega), ih k l _ (n + p) hl (by omega) (by simp; omega) (by omega) (by omega)]
      simp [turnL]
theorem Turn_eq {k : Nat} {x : List Int} {p : Int} (hx : x.length ≤ 17592186044415) (hk : x.length + 5 < k) : turn_Turn.f k x p = some (if x.length % 2 ≠ 0 then ([], 21) else if p < 0 ∨ p > 1000 then ([], 20) else (turnI x p, 0)) := by
  unfold turn_Turn.f
  by_cases c : x.length % 2 = 0
  · rw [if_pos (by omega), if_neg (show ¬ x.length % 2 ≠ 0 by omega)]
    by_cases c1 : p < 0
    · rw [if_pos c1, if_pos (Or.inl c1)]
    · rw [if_neg c1]
      by_cases c2 : p > 1000
      · rw [if_pos c2, if_pos (Or.inr c2)]
      · rw [if_neg c2, if_pos (by omega), if_pos (by omega), if_neg (show ¬ (p < 0 ∨ p > 1000) by omega), Turn_l0 ⟨by omega, by omega⟩ (x.length / 2) k x [] p (by omega) (by omega) (by simp; omega) (by omega) (by omega)]
        rfl
  · rw [if_neg (by omega), if_pos (by omega)]
theorem Heads_l0 {n : Nat} {p : Int} (hp : 0 ≤ p ∧ p ≤ 1000) (hn0 : 0 < n) (hn2 : n % 2 = 0) (r : Nat) : ∀ (k : Nat) (x acc : List Int), x.length = r * n → r + n + 8 < k → acc.length + x.length ≤ 17592186044415 →
    turn_Heads.l0 k x p (n : Int) acc = some (acc ++ partsT n p r x, 0) := by
  induction r with
  | zero =>
    intro k x acc hx hk ha
    obtain ⟨k, rfl⟩ : ∃ m, k = m + 1 := ⟨k - 1, by omega⟩
    simp only [turn_Heads.l0]
    rw [if_neg (by omega)]
    simp [partsT]
  | succ r ih =>
    intro k x acc hx hk ha
    obtain ⟨k, rfl⟩ : ∃ m, k = m + 1 := ⟨k - 1, by omega⟩
    have hx' : x.length = r * n + n := by rw [hx, Nat.succ_mul]
    have ht : (x.take n).length = n := by rw [List.length_take]; omega
    have hL := turnI_len_le (x.take n) p
    simp only [turn_Heads.l0]
    rw [if_pos (by omega), if_pos (by omega), if_pos (by omega), Int.toNat_natCast, Turn_eq (by omega) (by omega), if_neg (show ¬ (x.take n).length % 2 ≠ 0 by omega), if_neg (show ¬ (p < 0 ∨ p > 1000) by omega)]
    simp only [Option.bind_some, if_true]
    rw [if_pos (by omega), ih k _ _ (by rw [List.length_drop]; omega) (by omega) (by rw [List.length_append, List.length_drop]; omega)]
    simp [partsT]
def headsR (x : List Int) (heads p : Int) : List Int × Int :=
  if heads < 1 then ([], 20) else if (x.length : Int) % heads ≠ 0 ∨ (x.length : Int) / heads % 2 ≠ 0 then ([], 21) else if p < 0 ∨ p > 1000 then ([], 20) else (partsT ((x.length : Int) / heads).toNat p heads.toNat x, 0)
theorem Heads_eq {k : Nat} {x : List Int} {heads p : Int} (hh : heads ≤ 9223372036854775807) (hx : x.length ≤ 17592186044415) (hk : x.length + x.length + 30 < k) : turn_Heads.f k x heads p = some (headsR x heads p) := by
  obtain ⟨k, rfl⟩ : ∃ m, k = m + 1 := ⟨k - 1, by omega⟩
  unfold turn_Heads.f headsR
  by_cases c : heads < 1
  · rw [if_pos c, if_pos c]
  · rw [if_neg c, if_neg c, if_neg (show ¬ heads = 0 by omega)]
    have q0 : 0 ≤ (x.length : Int) / heads := Int.ediv_nonneg (by omega) (by omega)
    have q1 : (x.length : Int) / heads ≤ (x.length : Int) := Int.ediv_le_self _ (by omega)
    have q2 := Int.mul_ediv_add_emod (x.length : Int) heads
    have q3 := Int.emod_nonneg (x.length : Int) (show heads ≠ 0 by omega)
    have q4 : 0 ≤ heads * ((x.length : Int) / heads) := Int.mul_nonneg (by omega) q0
    rw [Int.mul_comm] at q2 q4
    generalize (x.length : Int) % heads = m at *
    generalize hq : (x.length : Int) / heads = q at *
    rw [wrap64_id (x := q) (by omega) (by omega), wrap64_id (x := q * heads) (by omega) (by omega)]
    have bad : turn_Heads.j0 (k + 1) x p q true = some ([], 21) := by simp [turn_Heads.j0]
    by_cases c1 : m = 0
    · rw [if_pos (show q * heads = (x.length : Int) by omega)]
      have et : Int.tmod q 2 = q % 2 := Int.tmod_eq_emod_of_nonneg q0
      rw [et]
      by_cases c2 : q % 2 = 0
      · rw [show ((q % 2) != 0) = false by simp [c2], if_neg (show ¬ (m ≠ 0 ∨ q % 2 ≠ 0) by omega)]
        simp only [turn_Heads.j0]
        rw [if_neg (by decide)]
        by_cases c3 : q = 0
        · have hx0 : x = [] := List.eq_nil_of_length_eq_zero (by rw [c3] at q2; omega)
          subst hx0
          rw [if_pos c3, Turn_eq (by simp) (by simp; omega), if_neg (by simp), c3]
          simp only [Option.bind_some]
          by_cases c4 : p < 0 ∨ p > 1000
          · rw [if_pos c4, if_pos c4]
          · rw [if_neg c4, if_neg c4]
            simp [partsT_nil, turnI, turnL]
        · rw [if_neg c3]
          obtain ⟨n, rfl⟩ := Int.eq_ofNat_of_zero_le q0
          obtain ⟨r, rfl⟩ := Int.eq_ofNat_of_zero_le (show 0 ≤ heads by omega)
          have hl : x.length = r * n := by
            have : (x.length : Int) = ((r * n : Nat) : Int) := by rw [Int.natCast_mul, Int.mul_comm]; omega
            omega
          have hrl : r ≤ x.length := by rw [hl]; exact Nat.le_mul_of_pos_right _ (by omega)
          by_cases c4 : p < 0 ∨ p > 1000
          · rw [if_pos c4]
            obtain ⟨k, rfl⟩ : ∃ m, k = m + 1 := ⟨k - 1, by omega⟩
            have ht : (x.take n).length = n := by rw [List.length_take]; omega
            simp only [turn_Heads.l0]
            rw [if_pos (by omega), if_pos (by omega), if_pos (by omega), Int.toNat_natCast, Turn_eq (by omega) (by omega), if_neg (show ¬ (x.take n).length % 2 ≠ 0 by omega), if_pos c4]
            simp only [Option.bind_some]
            rw [if_neg (by decide)]
          · rw [if_neg c4, Heads_l0 ⟨by omega, by omega⟩ (by omega) (by omega) r k x [] hl (by omega) (by simp; omega)]
            rfl
      · rw [show ((q % 2) != 0) = true by simp [c2], bad, if_pos (Or.inr c2)]
    · rw [if_neg (show ¬ q * heads = (x.length : Int) by omega), bad, if_pos (Or.inl c1)]
theorem works_eq {k : Nat} (hk : 100 < k) : aviarylaw06_works.f k = some true := by
  unfold aviarylaw06_works.f
  rw [Turn_eq (by simp) (by simp; omega), Heads_eq (by omega) (by simp) (by simp; omega), Turn_eq (by simp) (by simp; omega)]
  have e1 : turnI [65536, 0] 4 = [0, 65536] := by decide +kernel
  have e2 : headsR [65536, 0, 65536, 0] 1 4 = ([0, 65536, -65536, 0], 0) := by decide +kernel
  simp only [Option.bind_some, List.length_cons, List.length_nil]
  simp [e1, e2, Same_eq (show ([0, 65536] : List Int).length ≤ 4611686018427387904 by decide) (show ([0, 65536] : List Int).length < k by simp; omega), Same_eq (show ([0, 65536, -65536, 0] : List Int).length ≤ 4611686018427387904 by decide) (show ([0, 65536, -65536, 0] : List Int).length < k by simp; omega)]

theorem heads_two {a b : List Int} {q : Int} (c0 : a.length = b.length) (c1 : a.length % 2 = 0) (h0 : 0 ≤ q) (h1 : q ≤ 1000) : headsR (a ++ b) 2 q = (turnI a q ++ turnI b q, 0) := by
  have hL : (a ++ b).length = a.length + a.length := by rw [List.length_append]; omega
  have e1 : (((a ++ b).length : Int) / 2) = (a.length : Int) := by rw [hL]; omega
  have e3 : ((a ++ b).length : Int) % 2 = 0 := by omega
  unfold headsR
  rw [if_neg (by omega), if_neg (by rw [e1]; omega), if_neg (by omega), e1, Int.toNat_natCast]
  have e4 : ∀ r : Nat, r = 2 → partsT a.length q r (a ++ b) = turnI a q ++ turnI b q := by
    intro r hr
    subst hr
    show turnI ((a ++ b).take a.length) q ++ (turnI (((a ++ b).drop a.length).take a.length) q ++ []) = _
    rw [List.take_left, List.drop_left, List.take_of_length_le (by omega), List.append_nil]
  rw [e4 _ (by decide)]
theorem heads_run {k : Nat} {a b : List Int} {q : Int} (c0 : a.length = b.length) (c1 : a.length % 2 = 0) (h0 : 0 ≤ q) (h1 : q ≤ 1000) (hl : a.length ≤ 500) (hk : 2100 < k) : turn_Heads.f k (a ++ b) 2 q = some (turnI a q ++ turnI b q, 0) := by
  have hL : (a ++ b).length = a.length + a.length := by rw [List.length_append]; omega
  have e := Heads_eq (k := k) (x := a ++ b) (heads := 2) (p := q) (by decide +kernel) (by omega) (by omega)
  rw [e, heads_two c0 c1 h0 h1]
theorem turn_run {k : Nat} {a : List Int} {q : Int} (c1 : a.length % 2 = 0) (h0 : 0 ≤ q) (h1 : q ≤ 1000) (hl : a.length ≤ 500) (hk : 2100 < k) : turn_Turn.f k a q = some (turnI a q, 0) := by
  have e := Turn_eq (k := k) (x := a) (p := q) (by omega) (by omega)
  rw [e, if_neg (by omega), if_neg (by omega)]
theorem TurnApart : aviarylaw06_TurnApart.Pure := by
  intro a b p ha0 ha1 ha hb0 hb1 hb hp
  refine ⟨a.length + 3000, ?_⟩
  obtain ⟨k, hk⟩ : ∃ k, a.length + 3000 = k + 1 := ⟨a.length + 2999, rfl⟩
  unfold aviarylaw06_TurnApart.f
  rw [works_eq (by omega), Option.bind_some, if_pos rfl, hk]
  have yes : aviarylaw06_TurnApart.j0 (k + 1) a b p true = some true := by simp [aviarylaw06_TurnApart.j0]
  by_cases c0 : a.length = b.length
  · rw [if_pos (by omega)]
    by_cases c1 : a.length % 2 = 0
    · rw [if_pos (by omega)]
      by_cases c2 : (a.length : Int) > 500
      · rw [if_pos c2]; exact yes
      · rw [if_neg c2]
        by_cases c3 : a.length = 0
        · rw [show ((a.length : Int) == 0) = true from beq_iff_eq.2 (by omega)]; exact yes
        · rw [show ((a.length : Int) == 0) = false from beq_eq_false_iff_ne.2 (by omega)]
          have hm : 0 ≤ wrap64 (Int.tmod (IntKind.u64.wrap p) 1000) ∧ wrap64 (Int.tmod (IntKind.u64.wrap p) 1000) < 1000 := by
            have h : 0 ≤ IntKind.u64.wrap p := by rw [wrapu64]; omega
            rw [Int.tmod_eq_emod_of_nonneg h]; unfold wrap64; omega
          simp only [aviarylaw06_TurnApart.j0]
          generalize wrap64 (Int.tmod (IntKind.u64.wrap p) 1000) = q at *
          have la := turnI_len q c1
          have lb := turnI_len (x := b) q (by omega)
          rw [if_neg (by decide)]
          simp only [Option.bind_some, List.nil_append, List.length_nil, Nat.zero_add]
          rw [if_pos (by omega), if_pos (by omega), heads_run c0 c1 (by omega) (by omega) (by omega) (by omega), turn_run c1 (by omega) (by omega) (by omega) (by omega), turn_run (a := b) (by omega) (by omega) (by omega) (by omega) (by omega)]
          rw [Option.bind_some, Option.bind_some, Option.bind_some, if_pos rfl, if_pos rfl, if_pos rfl]
          have hl2 : ((turnI a q ++ turnI b q).length : Int) = 2 * (a.length : Int) := by rw [List.length_append]; omega
          rw [hl2, wrap64_id (by omega) (by omega), if_pos rfl, if_pos (by omega), if_pos (by omega), Int.toNat_natCast]
          have t1 : (turnI a q ++ turnI b q).take a.length = turnI a q := by rw [← la]; exact List.take_left
          have t2 : (turnI a q ++ turnI b q).drop a.length = turnI b q := by rw [← la]; exact List.drop_left
          rw [t1, t2, Same_refl (by omega) (by omega), Option.bind_some, if_pos rfl, Same_refl (by omega) (by omega)]
          rfl
    · rw [if_neg (by omega)]; exact yes
  · rw [if_neg (by omega)]; exact yes

end Go.Proofs.Ytnpecffgfanadaa.Pure
