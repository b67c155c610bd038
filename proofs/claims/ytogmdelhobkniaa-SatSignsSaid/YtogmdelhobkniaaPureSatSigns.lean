/- Shift of a number with its sign turned is what it was with its sign turned; what is divided by a power of two and multiplied again is off by half of that at most, for any number and any count. No condition. -/
import Derived.Test.YtogmdelhobkniaaPSatSignsx1
import Derived.Test.YtogmdelhobkniaaMSat
set_option linter.unusedVariables false
set_option linter.unusedSimpArgs false
namespace Go.Proofs.Ytogmdelhobkniaa.Pure
open Go Go.RowKit Go.Proofs.Ytogmdelhobkniaa.PSatSigns Go.Proofs.YtogmdelhobkniaaW.PrintWords Go.Proofs.YtogmdelhobkniaaW.PrintLast Go.Proofs.Ytogmdelhobkniaa.Mth
theorem Clamp_eq (x : Int) : sat_Clamp.f x = some (clampI x) := by unfold sat_Clamp.f; rw [clamp_f1]
theorem Add_eq {a b : Int} (ha : -9223372036854775808 ≤ a ∧ a ≤ 9223372036854775807) (hb : -9223372036854775808 ≤ b ∧ b ≤ 9223372036854775807) : sat_Add.f a b = some (saddI a b) := by
  unfold sat_Add.f
  have h := sadd_sign ha.1 ha.2 hb.1 hb.2
  by_cases c : (Go.bits .and .i64 (Go.bits .xor .i64 a (wrap64 (a + b))) (Go.bits .xor .i64 b (wrap64 (a + b)))) ≥ 0
  · rw [if_pos c]
    have h2 := h.1 c
    clear h c
    unfold wrap64 at *
    unfold saddI
    congr 1
    (repeat' split) <;> omega
  · rw [if_neg c]
    have h2 : ¬ ¬ _ := fun z => c (h.2 z)
    have h3 := Classical.not_not.1 h2
    clear h c h2
    unfold wrap64 at *
    unfold saddI
    (repeat' split) <;> first | rfl | omega
theorem Shift_eq {x : Int} (hx : -9223372036854775808 ≤ x ∧ x ≤ 9223372036854775807) (n : Int) : sat_Shift.f x n = some (shiftI x n) := by
  unfold sat_Shift.f shiftI
  have hm : mx (mn n 62) 0 = (nclampI n : Int) := by unfold mx mn nclampI; (repeat' split) <;> omega
  have hm2 : nclampI n ≤ 62 := by unfold nclampI; split <;> omega
  rw [hm]
  generalize nclampI n = m at *
  cases m with
  | zero => rfl
  | succ m =>
    rw [if_neg (by omega), if_pos (by omega)]
    have e1 : ((m + 1 : Nat) : Int).toNat = m + 1 := by omega
    have e2 : (((m + 1 : Nat) : Int) - 1).toNat = m := by omega
    rw [e1, e2]
    have hp := pow2_pos m
    have hP := pow2_succ m
    have hl := pow2_le62 hm2
    rw [wrap64_id (x := 2 ^ (m + 1)) (by omega) (by omega), wrap64_id (x := 2 ^ (m + 1) - 1) (by omega) (by omega), wrap64_id (x := 2 ^ m) (by omega) (by omega), bits_mask64 x (m + 1) hm2]
    have hr := Int.emod_nonneg x (show (2 : Int) ^ (m + 1) ≠ 0 by omega)
    have hr2 := Int.emod_lt_of_pos x (pow2_pos (m + 1))
    have hq := Int.mul_ediv_add_emod x (2 ^ (m + 1))
    have hqb : -9223372036854775808 ≤ x / 2 ^ (m + 1) + 1 ∧ x / 2 ^ (m + 1) + 1 ≤ 9223372036854775807 := by
      have h1 : x / 2 ^ (m + 1) ≤ 4611686018427387904 := by
        have := Int.ediv_le_ediv (c := 2 ^ (m + 1)) (by omega) hx.2
        have h3 : 9223372036854775807 / (2 : Int) ^ (m + 1) ≤ 4611686018427387904 := by
          have := Int.ediv_lt_of_lt_mul (a := 9223372036854775807) (b := 4611686018427387905) (c := 2 ^ (m + 1)) (by omega) (by omega)
          omega
        omega
      have h2 : -9223372036854775808 ≤ x / 2 ^ (m + 1) := by
        refine Int.le_ediv_of_mul_le (by omega) ?_
        omega
      omega
    rw [wrap64_id hqb.1 hqb.2]
    have key := rdivI_floor x m
    by_cases c : x % 2 ^ (m + 1) > 2 ^ m
    · rw [if_pos c, key, if_pos (Or.inl c)]
    · rw [if_neg c]
      by_cases d : x % 2 ^ (m + 1) = 2 ^ m
      · rw [if_pos d]
        by_cases e : x > 0
        · rw [if_pos e, key, if_pos (Or.inr ⟨d, e⟩)]
        · rw [if_neg e, key, if_neg (by omega)]
      · rw [if_neg d, key, if_neg (by omega)]
theorem Mul_eq (a b : Int) : sat_Mul.f a b = some (mulI a b) := by
  unfold sat_Mul.f mulI
  have h := clamp_prod a b
  rw [Clamp_eq, Clamp_eq]; simp only [Option.bind_some]
  rw [wrap64_id (by omega) (by omega), Shift_eq ⟨by omega, by omega⟩]; simp only [Option.bind_some]
  rw [Clamp_eq]; rfl
theorem Div_eq (a b : Int) : sat_Div.f a b = some (divI a b) := by
  unfold sat_Div.f divI
  have ha := clampI_range a
  have hb := clampI_range b
  rw [Clamp_eq, Clamp_eq]; simp only [Option.bind_some]
  by_cases c : clampI b = 0
  · rw [if_pos c, if_pos c]; (repeat' split) <;> rfl
  · rw [if_neg c, if_neg c]
    have h := tdiv_range (a := clampI a * 65536) (b := clampI b) (B := 140737488355328) (by omega) (by omega)
    rw [wrap64_id (x := clampI a * 65536) (by omega) (by omega), wrap64_id (by omega) (by omega), Clamp_eq]; rfl
theorem works_eq : aviarylaw01_works.f = some true := by decide +kernel
theorem SatSigns : aviarylaw01_SatSigns.Pure := by
  intro a b ha hb
  have ha' := wf64 ha
  have hx := tdiv4 (a := a) ha'.1 ha'.2
  have hn : 0 ≤ wrap64 (Int.tmod (IntKind.u64.wrap b) 40) ∧ wrap64 (Int.tmod (IntKind.u64.wrap b) 40) ≤ 39 := by
    have h : 0 ≤ IntKind.u64.wrap b := by rw [wrapu64]; omega
    rw [Int.tmod_eq_emod_of_nonneg h]; unfold wrap64; omega
  have ex : wrap64 (Int.tdiv a 4) = Int.tdiv a 4 := wrap64_id (by omega) (by omega)
  unfold aviarylaw01_SatSigns.f
  rw [works_eq, ex, Option.bind_some, if_pos rfl]
  generalize wrap64 (Int.tmod (IntKind.u64.wrap b) 40) = n at *
  generalize Int.tdiv a 4 = x at *
  have e1 : wrap64 (-x) = -x := wrap64_id (by omega) (by omega)
  rw [e1, Shift_eq ⟨by omega, by omega⟩, Shift_eq ⟨by omega, by omega⟩]; simp only [Option.bind_some]
  obtain ⟨m, rfl⟩ := Int.eq_ofNat_of_zero_le hn.1
  have hm : m ≤ 39 := by omega
  have e2 : nclampI (m : Int) = m := by unfold nclampI; rw [if_neg (by omega)]; omega
  have e3 : shl .i64 1 (m : Int) = 2 ^ m := by
    have hl := pow2_le62 (n := m) (by omega)
    have hp := pow2_pos m
    unfold shl; rw [show min ((m : Int).toNat) IntKind.i64.bits = m by simp [IntKind.bits]; omega, Int.one_mul, IntKind.wrap_i64]; omega
  unfold shiftI
  have hr := rdivI_range m (x := x) (B := 2305843009213693952) (by omega) (by omega)
  rw [e2, e3, rdivI_neg, wrap64_id (x := -rdivI x m) (by omega) (by omega), if_pos rfl, if_pos (by omega)]
  have near : -(2 ^ m) ≤ 2 * (x - rdivI x m * 2 ^ m) ∧ 2 * (x - rdivI x m * 2 ^ m) ≤ 2 ^ m := by
    cases m with
    | zero => simp [rdivI]
    | succ m => have h := rdivI_near x m; have hP := pow2_succ m; omega
  have hl : (2 : Int) ^ m ≤ 2 ^ 39 := by
    have h1 : (2 : Nat) ^ m ≤ 549755813888 := Nat.le_trans (Nat.pow_le_pow_right (by decide) hm) (by decide)
    have h2 : ((2 ^ m : Nat) : Int) = (2 : Int) ^ m := by simp
    omega
  have hp := pow2_pos m
  generalize rdivI x m * 2 ^ m = t at *
  generalize (2 : Int) ^ m = D at *
  have e39 : (2 : Int) ^ 39 = 549755813888 := rfl
  rw [wrap64_id (x := t) (by omega) (by omega), wrap64_id (x := x - t) (by omega) (by omega), wrap64_id (x := 2 * (x - t)) (by omega) (by omega), wrap64_id (x := -D) (by omega) (by omega), if_pos (by omega)]
  simp
  omega

end Go.Proofs.Ytogmdelhobkniaa.Pure
