/- Clamp and Add of the program equal those of the reference, for any two numbers of 64 bits. No condition. -/
import Derived.Test.YtogmdelhobkniaaPSatSumsx1
import Derived.Test.YtogmdelhobkniaaMSat
set_option linter.unusedVariables false
set_option linter.unusedSimpArgs false
namespace Go.Proofs.Ytogmdelhobkniaa.Pure
open Go Go.RowKit Go.Proofs.Ytogmdelhobkniaa.PSatSums Go.Proofs.YtogmdelhobkniaaW.PrintWords Go.Proofs.YtogmdelhobkniaaW.PrintLast Go.Proofs.Ytogmdelhobkniaa.Mth
theorem Clamp_eq (x : Int) : sat_Clamp.f x = some (clampI x) := by unfold sat_Clamp.f; rw [clamp_f1]
theorem rClamp_eq (x : Int) : aviaryref01_Clamp.f x = some (clampI x) := by unfold aviaryref01_Clamp.f; rw [clamp_f2]
theorem Add_eq {a b : Int} (ha : -9223372036854775808 ≤ a ∧ a ≤ 9223372036854775807) (hb : -9223372036854775808 ≤ b ∧ b ≤ 9223372036854775807) : sat_Add.f a b = some (saddI a b) := by
  unfold sat_Add.f
  have h := sadd_sign ha.1 ha.2 hb.1 hb.2
  by_cases c : (Go.bits .and .i64 (Go.bits .xor .i64 a (wrap64 (a + b))) (Go.bits .xor .i64 b (wrap64 (a + b)))) ≥ 0
  · rw [if_pos c]
    have h2 := h.1 c
    clear h c
    unfold wrap64 at *
    unfold saddI
    congr 1
    (repeat' split) <;> omega
  · rw [if_neg c]
    have h2 : ¬ ¬ _ := fun z => c (h.2 z)
    have h3 := Classical.not_not.1 h2
    clear h c h2
    unfold wrap64 at *
    unfold saddI
    (repeat' split) <;> first | rfl | omega
theorem rAdd_eq {k : Nat} (hk : 0 < k) {a b : Int} (ha : -9223372036854775808 ≤ a ∧ a ≤ 9223372036854775807) (hb : -9223372036854775808 ≤ b ∧ b ≤ 9223372036854775807) : aviaryref01_Add.f k a b = some (saddI a b) := by
  obtain ⟨k, rfl⟩ : ∃ m, k = m + 1 := ⟨k - 1, by omega⟩
  unfold aviaryref01_Add.f
  by_cases c : b > 0
  · rw [if_pos c, wrap64_id (x := 9223372036854775807 - b) (by omega) (by omega)]
    simp only [aviaryref01_Add.j0]
    by_cases d : a > 9223372036854775807 - b
    · rw [if_pos (by simpa using d)]
      unfold saddI; rw [if_pos (by omega)]
    · rw [if_neg (by simpa using d), if_neg (by omega), wrap64_id (by omega) (by omega)]
      unfold saddI; rw [if_neg (by omega), if_neg (by omega)]
  · rw [if_neg c]
    simp only [aviaryref01_Add.j0]
    rw [if_neg (by decide)]
    by_cases d : b < 0
    · rw [if_pos d, wrap64_id (x := -9223372036854775808 - b) (by omega) (by omega)]
      by_cases e : a < -9223372036854775808 - b
      · rw [if_pos e]; unfold saddI; rw [if_neg (by omega), if_pos (by omega)]
      · rw [if_neg e, wrap64_id (by omega) (by omega)]; unfold saddI; rw [if_neg (by omega), if_neg (by omega)]
    · rw [if_neg d, wrap64_id (by omega) (by omega)]; unfold saddI; rw [if_neg (by omega), if_neg (by omega)]
theorem SatSums : aviarylaw01_SatSums.Pure := by
  intro a b ha hb
  refine ⟨1, ?_⟩
  unfold aviarylaw01_SatSums.f
  rw [Clamp_eq, rClamp_eq, Add_eq (wf64 ha) (wf64 hb), rAdd_eq (by omega) (wf64 ha) (wf64 hb)]
  simp

end Go.Proofs.Ytogmdelhobkniaa.Pure
