/- Sums within bounds do not hang on brackets; a quotient times its divisor is the number but for less than the divisor, for any three numbers. No condition. -/
import Derived.Test.YtogmdelhobkniaaPSatThreex1
import Derived.Test.YtogmdelhobkniaaMSat
set_option linter.unusedVariables false
set_option linter.unusedSimpArgs false
namespace Go.Proofs.Ytogmdelhobkniaa.Pure
open Go Go.RowKit Go.Proofs.Ytogmdelhobkniaa.PSatThree Go.Proofs.YtogmdelhobkniaaW.PrintWords Go.Proofs.YtogmdelhobkniaaW.PrintLast Go.Proofs.Ytogmdelhobkniaa.Mth
theorem Clamp_eq (x : Int) : sat_Clamp.f x = some (clampI x) := by unfold sat_Clamp.f; rw [clamp_f1]
theorem Add_eq {a b : Int} (ha : -9223372036854775808 ≤ a ∧ a ≤ 9223372036854775807) (hb : -9223372036854775808 ≤ b ∧ b ≤ 9223372036854775807) : sat_Add.f a b = some (saddI a b) := by
  unfold sat_Add.f
  have h := sadd_sign ha.1 ha.2 hb.1 hb.2
  by_cases c : (Go.bits .and .i64 (Go.bits .xor .i64 a (wrap64 (a + b))) (Go.bits .xor .i64 b (wrap64 (a + b)))) ≥ 0
  · rw [if_pos c]
    have h2 := h.1 c
    clear h c
    unfold wrap64 at *
    unfold saddI
    congr 1
    (repeat' split) <;> omega
  · rw [if_neg c]
    have h2 : ¬ ¬ _ := fun z => c (h.2 z)
    have h3 := Classical.not_not.1 h2
    clear h c h2
    unfold wrap64 at *
    unfold saddI
    (repeat' split) <;> first | rfl | omega
theorem Shift_eq {x : Int} (hx : -9223372036854775808 ≤ x ∧ x ≤ 9223372036854775807) (n : Int) : sat_Shift.f x n = some (shiftI x n) := by
  unfold sat_Shift.f shiftI
  have hm : mx (mn n 62) 0 = (nclampI n : Int) := by unfold mx mn nclampI; (repeat' split) <;> omega
  have hm2 : nclampI n ≤ 62 := by unfold nclampI; split <;> omega
  rw [hm]
  generalize nclampI n = m at *
  cases m with
  | zero => rfl
  | succ m =>
    rw [if_neg (by omega), if_pos (by omega)]
    have e1 : ((m + 1 : Nat) : Int).toNat = m + 1 := by omega
    have e2 : (((m + 1 : Nat) : Int) - 1).toNat = m := by omega
    rw [e1, e2]
    have hp := pow2_pos m
    have hP := pow2_succ m
    have hl := pow2_le62 hm2
    rw [wrap64_id (x := 2 ^ (m + 1)) (by omega) (by omega), wrap64_id (x := 2 ^ (m + 1) - 1) (by omega) (by omega), wrap64_id (x := 2 ^ m) (by omega) (by omega), bits_mask64 x (m + 1) hm2]
    have hr := Int.emod_nonneg x (show (2 : Int) ^ (m + 1) ≠ 0 by omega)
    have hr2 := Int.emod_lt_of_pos x (pow2_pos (m + 1))
    have hq := Int.mul_ediv_add_emod x (2 ^ (m + 1))
    have hqb : -9223372036854775808 ≤ x / 2 ^ (m + 1) + 1 ∧ x / 2 ^ (m + 1) + 1 ≤ 9223372036854775807 := by
      have h1 : x / 2 ^ (m + 1) ≤ 4611686018427387904 := by
        have := Int.ediv_le_ediv (c := 2 ^ (m + 1)) (by omega) hx.2
        have h3 : 9223372036854775807 / (2 : Int) ^ (m + 1) ≤ 4611686018427387904 := by
          have := Int.ediv_lt_of_lt_mul (a := 9223372036854775807) (b := 4611686018427387905) (c := 2 ^ (m + 1)) (by omega) (by omega)
          omega
        omega
      have h2 : -9223372036854775808 ≤ x / 2 ^ (m + 1) := by
        refine Int.le_ediv_of_mul_le (by omega) ?_
        omega
      omega
    rw [wrap64_id hqb.1 hqb.2]
    have key := rdivI_floor x m
    by_cases c : x % 2 ^ (m + 1) > 2 ^ m
    · rw [if_pos c, key, if_pos (Or.inl c)]
    · rw [if_neg c]
      by_cases d : x % 2 ^ (m + 1) = 2 ^ m
      · rw [if_pos d]
        by_cases e : x > 0
        · rw [if_pos e, key, if_pos (Or.inr ⟨d, e⟩)]
        · rw [if_neg e, key, if_neg (by omega)]
      · rw [if_neg d, key, if_neg (by omega)]
theorem Mul_eq (a b : Int) : sat_Mul.f a b = some (mulI a b) := by
  unfold sat_Mul.f mulI
  have h := clamp_prod a b
  rw [Clamp_eq, Clamp_eq]; simp only [Option.bind_some]
  rw [wrap64_id (by omega) (by omega), Shift_eq ⟨by omega, by omega⟩]; simp only [Option.bind_some]
  rw [Clamp_eq]; rfl
theorem Div_eq (a b : Int) : sat_Div.f a b = some (divI a b) := by
  unfold sat_Div.f divI
  have ha := clampI_range a
  have hb := clampI_range b
  rw [Clamp_eq, Clamp_eq]; simp only [Option.bind_some]
  by_cases c : clampI b = 0
  · rw [if_pos c, if_pos c]; (repeat' split) <;> rfl
  · rw [if_neg c, if_neg c]
    have h := tdiv_range (a := clampI a * 65536) (b := clampI b) (B := 140737488355328) (by omega) (by omega)
    rw [wrap64_id (x := clampI a * 65536) (by omega) (by omega), wrap64_id (by omega) (by omega), Clamp_eq]; rfl
theorem works_eq : aviarylaw01_works.f = some true := by decide +kernel
theorem SatThree : aviarylaw01_SatThree.Pure := by
  intro a b c ha hb hc
  have ha' := wf64 ha
  have hb' := wf64 hb
  have hc' := wf64 hc
  have hx := tdiv4 (a := a) ha'.1 ha'.2
  have hy := tdiv4 (a := b) hb'.1 hb'.2
  have hz := tdiv4 (a := c) hc'.1 hc'.2
  have hq : 1 ≤ wrap64 (1 + wrap64 (Int.tmod (IntKind.u64.wrap b) 1048576)) ∧ wrap64 (1 + wrap64 (Int.tmod (IntKind.u64.wrap b) 1048576)) ≤ 1048576 := by
    have h : 0 ≤ IntKind.u64.wrap b := by rw [wrapu64]; omega
    rw [Int.tmod_eq_emod_of_nonneg h]; unfold wrap64; omega
  have hp : -1048575 ≤ Int.tmod a 1048576 ∧ Int.tmod a 1048576 ≤ 1048575 := by
    have := Int.tmod_lt_of_pos a (show (0 : Int) < 1048576 by decide)
    have := Int.tmod_lt_of_pos (-a) (show (0 : Int) < 1048576 by decide)
    rw [Int.neg_tmod] at this
    omega
  unfold aviarylaw01_SatThree.f
  rw [works_eq, Option.bind_some, if_pos rfl]
  rw [wrap64_id (x := Int.tdiv a 4) (by omega) (by omega), wrap64_id (x := Int.tdiv b 4) (by omega) (by omega), wrap64_id (x := Int.tdiv c 4) (by omega) (by omega)]
  generalize wrap64 (1 + wrap64 (Int.tmod (IntKind.u64.wrap b) 1048576)) = q at *
  generalize Int.tmod a 1048576 = p at *
  generalize Int.tdiv a 4 = x at *
  generalize Int.tdiv b 4 = y at *
  generalize Int.tdiv c 4 = z at *
  have add : ∀ u v : Int, -4611686018427387904 ≤ u → u ≤ 4611686018427387904 → -4611686018427387903 ≤ v → v ≤ 4611686018427387903 → sat_Add.f u v = some (u + v) := by
    intro u v h1 h2 h3 h4
    rw [Add_eq ⟨by omega, by omega⟩ ⟨by omega, by omega⟩, saddI_id (by omega) (by omega)]
  rw [add x y (by omega) (by omega) (by omega) (by omega), add y z (by omega) (by omega) (by omega) (by omega)]; simp only [Option.bind_some]
  have add2 : sat_Add.f x (y + z) = some (x + (y + z)) := by rw [Add_eq ⟨by omega, by omega⟩ ⟨by omega, by omega⟩, saddI_id (by omega) (by omega)]
  rw [add (x + y) z (by omega) (by omega) (by omega) (by omega), add2]; simp only [Option.bind_some]
  rw [if_pos (by omega), Div_eq]; simp only [Option.bind_some]
  have e : divI p q = clampI (Int.tdiv (p * 65536) q) := by
    unfold divI
    rw [clampI_id (x := q) (by omega) (by omega), clampI_id (x := p) (by omega) (by omega), if_neg (by omega)]
  rw [e]
  have hs := tdiv_split (p * 65536) q (by omega)
  have hm := Int.tmod_lt_of_pos (p * 65536) (show 0 < q by omega)
  have hm2 := Int.tmod_lt_of_pos (-(p * 65536)) (show 0 < q by omega)
  rw [Int.neg_tmod] at hm2
  by_cases c1 : clampI (Int.tdiv (p * 65536) q) > 2147483646
  · rw [if_pos c1]
  · rw [if_neg c1]
    by_cases c2 : clampI (Int.tdiv (p * 65536) q) < -2147483646
    · rw [if_pos c2]
    · rw [if_neg c2]
      have e2 : clampI (Int.tdiv (p * 65536) q) = Int.tdiv (p * 65536) q := by
        unfold clampI at *
        (repeat' split at *) <;> omega
      rw [e2]
      generalize Int.tmod (p * 65536) q = r at *
      generalize hd : Int.tdiv (p * 65536) q * q = t at *
      rw [wrap64_id (x := p * 65536) (by omega) (by omega), wrap64_id (x := t) (by omega) (by omega), wrap64_id (x := p * 65536 - t) (by omega) (by omega), wrap64_id (x := -q) (by omega) (by omega), if_pos (by omega)]
      simp
      omega

end Go.Proofs.Ytogmdelhobkniaa.Pure
