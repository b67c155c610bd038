/- Each number of a product with a matrix is that of its row alone: for any matrix of at most 5000 weights and any row. No condition. -/
import Derived.Test.YtbegoilegjinbaaPVecRowsx2
import Derived.Test.YtbegoilegjinbaaMSat
import Derived.Test.YtbegoilegjinbaaMVec
set_option linter.unusedVariables false
set_option linter.unusedSimpArgs false
namespace Go.Proofs.Ytbegoilegjinbaa.Pure
open Go Go.RowKit Go.Proofs.Ytbegoilegjinbaa.PVecRows Go.Proofs.YtbegoilegjinbaaW.PrintWords Go.Proofs.YtbegoilegjinbaaW.PrintLast Go.Proofs.Ytbegoilegjinbaa.Mth
theorem Clamp_eq (x : Int) : sat_Clamp.f x = some (clampI x) := by unfold sat_Clamp.f; rw [clamp_f1]
theorem Add_eq {a b : Int} (ha : -9223372036854775808 ≤ a ∧ a ≤ 9223372036854775807) (hb : -9223372036854775808 ≤ b ∧ b ≤ 9223372036854775807) : sat_Add.f a b = some (saddI a b) := by
  unfold sat_Add.f
  have h := sadd_sign ha.1 ha.2 hb.1 hb.2
  by_cases c : (Go.bits .and .i64 (Go.bits .xor .i64 a (wrap64 (a + b))) (Go.bits .xor .i64 b (wrap64 (a + b)))) ≥ 0
  · rw [if_pos c]
    have h2 := h.1 c
    clear h c
    unfold wrap64 at *
    unfold saddI
    congr 1
    (repeat' split) <;> omega
  · rw [if_neg c]
    have h2 : ¬ ¬ _ := fun z => c (h.2 z)
    have h3 := Classical.not_not.1 h2
    clear h c h2
    unfold wrap64 at *
    unfold saddI
    (repeat' split) <;> first | rfl | omega
theorem Shift_eq {x : Int} (hx : -9223372036854775808 ≤ x ∧ x ≤ 9223372036854775807) (n : Int) : sat_Shift.f x n = some (shiftI x n) := by
  unfold sat_Shift.f shiftI
  have hm : mx (mn n 62) 0 = (nclampI n : Int) := by unfold mx mn nclampI; (repeat' split) <;> omega
  have hm2 : nclampI n ≤ 62 := by unfold nclampI; split <;> omega
  rw [hm]
  generalize nclampI n = m at *
  cases m with
  | zero => rfl
  | succ m =>
    rw [if_neg (by omega), if_pos (by omega)]
    have e1 : ((m + 1 : Nat) : Int).toNat = m + 1 := by omega
    have e2 : (((m + 1 : Nat) : Int) - 1).toNat = m := by omega
    rw [e1, e2]
    have hp := pow2_pos m
    have hP := pow2_succ m
    have hl := pow2_le62 hm2
    rw [wrap64_id (x := 2 ^ (m + 1)) (by omega) (by omega), wrap64_id (x := 2 ^ (m + 1) - 1) (by omega) (by omega), wrap64_id (x := 2 ^ m) (by omega) (by omega), bits_mask64 x (m + 1) hm2]
    have hr := Int.emod_nonneg x (show (2 : Int) ^ (m + 1) ≠ 0 by omega)
    have hr2 := Int.emod_lt_of_pos x (pow2_pos (m + 1))
    have hq := Int.mul_ediv_add_emod x (2 ^ (m + 1))
    have hqb : -9223372036854775808 ≤ x / 2 ^ (m + 1) + 1 ∧ x / 2 ^ (m + 1) + 1 ≤ 9223372036854775807 := by
      have h1 : x / 2 ^ (m + 1) ≤ 4611686018427387904 := by
        have := Int.ediv_le_ediv (c := 2 ^ (m + 1)) (by omega) hx.2
        have h3 : 9223372036854775807 / (2 : Int) ^ (m + 1) ≤ 4611686018427387904 := by
          have := Int.ediv_lt_of_lt_mul (a := 9223372036854775807) (b := 4611686018427387905) (c := 2 ^ (m + 1)) (by omega) (by omega)
          omega
        omega
      have h2 : -9223372036854775808 ≤ x / 2 ^ (m + 1) := by
        refine Int.le_ediv_of_mul_le (by omega) ?_
        omega
      omega
    rw [wrap64_id hqb.1 hqb.2]
    have key := rdivI_floor x m
    by_cases c : x % 2 ^ (m + 1) > 2 ^ m
    · rw [if_pos c, key, if_pos (Or.inl c)]
    · rw [if_neg c]
      by_cases d : x % 2 ^ (m + 1) = 2 ^ m
      · rw [if_pos d]
        by_cases e : x > 0
        · rw [if_pos e, key, if_pos (Or.inr ⟨d, e⟩)]
        · rw [if_neg e, key, if_neg (by omega)]
      · rw [if_neg d, key, if_neg (by omega)]
theorem Mul_eq (a b : Int) : sat_Mul.f a b = some (mulI a b) := by
  unfold sat_Mul.f mulI
  have h := clamp_prod a b
  rw [Clamp_eq, Clamp_eq]; simp only [Option.bind_some]
  rw [wrap64_id (by omega) (by omega), Shift_eq ⟨by omega, by omega⟩]; simp only [Option.bind_some]
  rw [Clamp_eq]; rfl
theorem sum8_l0 {w x : List Int} (hw : All8 w) (hx : All64 x) (hl : w.length = x.length) (hb : w.length ≤ 4611686018427387904) (d : Nat) : ∀ (k : Nat) (s i : Int), 0 ≤ i → (w.length : Int) - i = d → d < k → -9223372036854775808 ≤ s → s ≤ 9223372036854775807 →
    vec_sum_int8.l0 k x s w (w.length : Int) i = some (dotA s (w.drop i.toNat) (x.drop i.toNat)) := by
  induction d with
  | zero =>
    intro k s i h0 hd hk hs0 hs1
    obtain ⟨k, rfl⟩ : ∃ m, k = m + 1 := ⟨k - 1, by omega⟩
    simp only [vec_sum_int8.l0]
    rw [if_neg (by omega), drop_len (by omega)]
    rfl
  | succ d ih =>
    intro k s i h0 hd hk hs0 hs1
    obtain ⟨k, rfl⟩ : ∃ m, k = m + 1 := ⟨k - 1, by omega⟩
    have hp := clamp_prod (rd w i) (rd x i)
    have hr := rd8 hw i
    simp only [vec_sum_int8.l0]
    rw [if_pos (by omega), if_pos h0, if_pos (by omega), wrap64_id (x := rd w i) (by omega) (by omega), Clamp_eq]; simp only [Option.bind_some]
    rw [if_pos (by omega), Clamp_eq]; simp only [Option.bind_some]
    rw [wrap64_id (x := clampI (rd w i) * clampI (rd x i)) (by omega) (by omega), Add_eq ⟨hs0, hs1⟩ ⟨by omega, by omega⟩]; simp only [Option.bind_some]
    rw [wrap64_id (x := i + 1) (by omega) (by omega), ih k _ (i + 1) (by omega) (by omega) (by omega) (saddI_range _ _).1 (saddI_range _ _).2, drop_rd (l := w) h0 (by omega), drop_rd (l := x) h0 (by omega)]
    rfl
theorem sum8_eq {k : Nat} {w x : List Int} (hw : All8 w) (hx : All64 x) (hl : w.length = x.length) (hb : w.length ≤ 4611686018427387904) (hk : w.length < k) : vec_sum_int8.f k w x = some (dotA 0 w x) := by
  unfold vec_sum_int8.f
  rw [sum8_l0 hw hx hl hb w.length k 0 0 (by omega) (by omega) hk (by omega) (by omega)]
  rfl
theorem Dot_eq {k : Nat} {w x : List Int} (hw : All8 w) (hx : All64 x) (hb : w.length ≤ 4611686018427387904) (hk : w.length < k) : vec_Dot.f k w x = some (if w.length = x.length then (dotI w x, 0) else (0, 21)) := by
  unfold vec_Dot.f
  by_cases c : w.length = x.length
  · have hr := dotA_range 0 w x (by omega) (by omega)
    rw [if_pos (by omega), if_pos c, sum8_eq hw hx c hb hk]; simp only [Option.bind_some]
    rw [Shift_eq hr]; simp only [Option.bind_some]
    rw [Clamp_eq, shift_at nclamp6]; rfl
  · rw [if_neg (by omega), if_neg c]
theorem Same_l0 {a b : List Int} (hl : a.length = b.length) (hb : a.length ≤ 4611686018427387904) (d : Nat) : ∀ (k : Nat) (i : Int), 0 ≤ i → (a.length : Int) - i = d → d < k →
    aviaryref04_Same.l0 k a b i = some (decide (a.drop i.toNat = b.drop i.toNat)) := by
  induction d with
  | zero =>
    intro k i h0 hd hk
    obtain ⟨k, rfl⟩ : ∃ m, k = m + 1 := ⟨k - 1, by omega⟩
    simp only [aviaryref04_Same.l0]
    rw [if_neg (by omega), drop_len (by omega), drop_len (by omega)]
    simp
  | succ d ih =>
    intro k i h0 hd hk
    obtain ⟨k, rfl⟩ : ∃ m, k = m + 1 := ⟨k - 1, by omega⟩
    simp only [aviaryref04_Same.l0]
    rw [if_pos (by omega), if_pos h0, if_pos (by omega), drop_rd (l := a) h0 (by omega), drop_rd (l := b) h0 (by omega)]
    by_cases c : rd a i = rd b i
    · rw [if_pos c, wrap64_id (x := i + 1) (by omega) (by omega), ih k (i + 1) (by omega) (by omega) (by omega), c]
      simp
    · rw [if_neg c]
      simp [c]
theorem Same_eq {k : Nat} {a b : List Int} (hb : a.length ≤ 4611686018427387904) (hk : a.length < k) : aviaryref04_Same.f k a b = some (decide (a = b)) := by
  unfold aviaryref04_Same.f
  by_cases c : a.length = b.length
  · rw [if_pos (by omega), Same_l0 c hb a.length k 0 (by omega) (by omega) hk]
    rfl
  · rw [if_neg (by omega)]
    have : a ≠ b := fun h => c (by rw [h])
    simp [this]
theorem Same_refl {k : Nat} {a : List Int} (hb : a.length ≤ 4611686018427387904) (hk : a.length < k) : aviaryref04_Same.f k a a = some true := by rw [Same_eq hb hk]; simp
theorem Scale_l0 {x : List Int} (n : Int) (hb : x.length ≤ 4611686018427387904) (d : Nat) : ∀ (k : Nat) (i : Int), 0 ≤ i → (x.length : Int) - i = d → d < k →
    vec_Scale.l0 k n (fillI (scaleI x n) i) x (x.length : Int) i = some (scaleI x n) := by
  have hL : (scaleI x n).length = x.length := by simp [scaleI]
  induction d with
  | zero =>
    intro k i h0 hd hk
    obtain ⟨k, rfl⟩ : ∃ m, k = m + 1 := ⟨k - 1, by omega⟩
    simp only [vec_Scale.l0]
    rw [if_neg (by omega), fillI_end (by omega)]
  | succ d ih =>
    intro k i h0 hd hk
    obtain ⟨k, rfl⟩ : ∃ m, k = m + 1 := ⟨k - 1, by omega⟩
    simp only [vec_Scale.l0]
    rw [if_pos (by omega), if_pos h0, if_pos (by omega), Mul_eq]; simp only [Option.bind_some]
    have e : mulI (rd x i) n = rd (scaleI x n) i := by unfold scaleI; rw [rd_map h0 (by omega)]
    rw [if_pos (by rw [fillI_len (by omega)]; omega), e, fillI_set h0 (by omega), wrap64_id (x := i + 1) (by omega) (by omega)]
    exact ih k (i + 1) (by omega) (by omega) (by omega)
theorem Scale_eq {k : Nat} {x : List Int} (n : Int) (hb : x.length ≤ 35184372088832) (hk : x.length < k) : vec_Scale.f k x n = some (scaleI x n) := by
  unfold vec_Scale.f
  have hL : (scaleI x n).length = x.length := by simp [scaleI]
  have e : List.replicate ((x.length : Int)).toNat (0 : Int) = fillI (scaleI x n) 0 := by rw [fillI_zero, hL]; rfl
  rw [if_pos (by omega), if_pos (by omega), e, Scale_l0 n (by omega) x.length k 0 (by omega) (by omega) hk]
theorem Mat_l0 {x : List Int} (hx : All64 x) (hn : 0 < x.length) (hxl : x.length ≤ 4611686018427387904) (r : Nat) : ∀ (k : Nat) (w acc : List Int), All8 w → w.length = r * x.length → acc.length + r ≤ 17592186044416 → r + x.length + 1 < k →
    vec_Mat.l0 k w x (x.length : Int) acc = some (acc ++ mat1 x.length x r w, 0) := by
  induction r with
  | zero =>
    intro k w acc hw hl ha hk
    obtain ⟨k, rfl⟩ : ∃ m, k = m + 1 := ⟨k - 1, by omega⟩
    simp only [vec_Mat.l0]
    rw [if_neg (by omega)]
    simp [mat1]
  | succ r ih =>
    intro k w acc hw hl ha hk
    obtain ⟨k, rfl⟩ : ∃ m, k = m + 1 := ⟨k - 1, by omega⟩
    have hl' : w.length = r * x.length + x.length := by rw [hl, Nat.succ_mul]
    have hnn : ((x.length : Int)).toNat = x.length := by omega
    have ht : (w.take x.length).length = x.length := by rw [List.length_take]; omega
    simp only [vec_Mat.l0]
    rw [if_pos (by omega), if_pos (by omega), if_pos (by omega), hnn, Dot_eq (fun y hy => hw y (List.mem_of_mem_take hy)) hx (by omega) (by omega), if_pos ht]
    simp only [Option.bind_some]
    rw [if_pos (by omega), ih k _ _ (fun y hy => hw y (List.mem_of_mem_drop hy)) (by rw [List.length_drop]; omega) (by rw [List.length_append]; simp; omega) (by omega)]
    simp [mat1]
theorem Mat_eq {k : Nat} {w x : List Int} {rows : Int} (hw : All8 w) (hx : All64 x) (hb : w.length ≤ 17592186044416) (hxl : x.length ≤ 4611686018427387904) (hk : w.length + x.length + 2 < k) :
    vec_Mat.f k w rows x = some (if x.length = 0 ∨ rows < 0 ∨ w.length % x.length ≠ 0 ∨ ((w.length / x.length : Nat) : Int) ≠ rows then ([], 21) else (mat1 x.length x (w.length / x.length) w, 0)) := by
  obtain ⟨k, rfl⟩ : ∃ m, k = m + 1 := ⟨k - 1, by omega⟩
  have bad : vec_Mat.j0 (k + 1) w x (x.length : Int) true = some ([], 21) := by simp [vec_Mat.j0]
  unfold vec_Mat.f
  by_cases c1 : x.length = 0
  · rw [if_pos (by omega), bad, if_pos (Or.inl c1)]
  · rw [if_neg (by omega)]
    by_cases c2 : rows < 0
    · rw [if_pos c2, bad, if_pos (Or.inr (Or.inl c2))]
    · rw [if_neg c2]
      by_cases c3 : w.length % x.length = 0
      · have e : (w.length : Int) / (x.length : Int) = ((w.length / x.length : Nat) : Int) := by rw [Int.natCast_ediv]
        have hq : w.length / x.length ≤ w.length := Nat.div_le_self _ _
        have hm : w.length = w.length / x.length * x.length := by have := Nat.div_add_mod w.length x.length; rw [Nat.mul_comm]; omega
        have hz : ((w.length : Int) % (x.length : Int)) = 0 := by rw [← Int.natCast_emod]; omega
        rw [if_pos hz, e]
        clear e hz
        generalize w.length / x.length = q at *
        rw [wrap64_id (by omega) (by omega)]
        by_cases c4 : (q : Int) = rows
        · rw [if_neg (by simp [c1, c2, c3, c4])]
          simp only [vec_Mat.j0]
          rw [if_neg (by simp [c4]), Mat_l0 hx (by omega) hxl q k w [] hw hm (by simp; omega) (by omega)]
          rfl
        · rw [if_pos (Or.inr (Or.inr (Or.inr c4))), show ((q : Int) != rows) = true by simp [c4], bad]
      · rw [if_neg (by rw [← Int.natCast_emod]; omega), bad, if_pos (Or.inr (Or.inr (Or.inl c3)))]
theorem works_eq {k : Nat} (hk : 100 < k) : aviarylaw04_works.f k = some true := by
  have a1 : All8 [64, -64] := by intro x hx; simp at hx; omega
  have a2 : All64 [65536, 32768] := by intro x hx; simp at hx; omega
  have a3 : All8 [64, 0, 0, 64] := by intro x hx; simp at hx; omega
  have a4 : All64 [5, 7] := by intro x hx; simp at hx; omega
  have a5 : All8 [1] := by intro x hx; simp at hx; omega
  have a6 : All64 [] := by intro x hx; simp at hx
  unfold aviarylaw04_works.f
  rw [Dot_eq a1 a2 (by simp) (by simp; omega), Mat_eq a3 a4 (by simp) (by simp) (by simp; omega), Dot_eq a5 a6 (by simp) (by simp; omega), Scale_eq 98304 (by simp) (by simp; omega)]
  have e1 : dotI [64, -64] [65536, 32768] = 32768 := by decide +kernel
  have e2 : mat1 2 [5, 7] 2 [64, 0, 0, 64] = [5, 7] := by decide +kernel
  have e3 : scaleI [2] 98304 = [3] := by decide +kernel
  simp only [Option.bind_some, List.length_cons, List.length_nil]
  simp [e1, e2, e3, Same_eq (show ([5, 7] : List Int).length ≤ 4611686018427387904 by decide) (show ([5, 7] : List Int).length < k by simp; omega), Same_eq (show ([3] : List Int).length ≤ 4611686018427387904 by decide) (show ([3] : List Int).length < k by simp; omega)]

theorem law_l0 {w x : List Int} (hw : All8 w) (hx : All64 x) (hn : 0 < x.length) (r : Nat) (hl : w.length = r * x.length) (hb : w.length ≤ 5000) (hxl : x.length ≤ 4611686018427387904) (d : Nat) : ∀ (k j : Nat), j + d = r → d + x.length + 2 < k →
    aviarylaw04_VecRows.l0 k w x (r : Int) (mat1 x.length x r w) (j : Int) = some true := by
  have hL := mat1_len x.length x r w
  have hrl : r ≤ w.length := by rw [hl]; exact Nat.le_mul_of_pos_right _ hn
  induction d with
  | zero =>
    intro k j hd hk
    obtain ⟨k, rfl⟩ : ∃ m, k = m + 1 := ⟨k - 1, by omega⟩
    simp only [aviarylaw04_VecRows.l0]
    rw [if_neg (by omega)]
  | succ d ih =>
    intro k j hd hk
    obtain ⟨k, rfl⟩ : ∃ m, k = m + 1 := ⟨k - 1, by omega⟩
    have h1 : (j + 1) * x.length ≤ r * x.length := Nat.mul_le_mul_right _ (by omega)
    have h2 : (j + 1) * x.length = j * x.length + x.length := Nat.succ_mul _ _
    have ed : (w.take ((j + 1) * x.length)).drop (j * x.length) = (w.drop (j * x.length)).take x.length := by rw [List.drop_take, show (j + 1) * x.length - j * x.length = x.length by omega]
    have ht : ((w.drop (j * x.length)).take x.length).length = x.length := by rw [List.length_take, List.length_drop]; omega
    have b0 : j < 9223372036854775807 := by omega
    have b1 : j * x.length ≤ 9223372036854775807 := by omega
    have b2 : (j + 1) * x.length ≤ 9223372036854775807 := by omega
    simp only [aviarylaw04_VecRows.l0]
    rw [if_pos (by omega), wrapN_mul b1, wrapN_succ b0, wrapN_mul b2, if_pos (by omega), if_pos (by omega), if_pos (by omega), Int.toNat_natCast, Int.toNat_natCast, ed,
      Dot_eq (fun y hy => hw y (List.mem_of_mem_drop (List.mem_of_mem_take hy))) hx (by omega) (by omega), if_pos ht]
    simp only [Option.bind_some, if_true]
    rw [if_pos (by omega), if_pos (by omega), if_pos (mat1_rd x.length x r w j (by omega))]
    exact ih k (j + 1) (by omega) (by omega)
theorem VecRows : aviarylaw04_VecRows.Pure := by
  intro w x hw0 hw1 hw hx0 hx1 hx
  have hW := all8 hw
  have hX := all64 hx
  refine ⟨w.length + x.length + 200, ?_⟩
  obtain ⟨k, hk⟩ : ∃ k, w.length + x.length + 200 = k + 2 := ⟨w.length + x.length + 198, rfl⟩
  unfold aviarylaw04_VecRows.f
  rw [works_eq (by omega), Option.bind_some, if_pos rfl, hk, show k + 2 = (k + 1) + 1 from rfl]
  have yes : ∀ j, aviarylaw04_VecRows.j0 (j + 1) w x true = some true := fun j => by simp [aviarylaw04_VecRows.j0]
  by_cases c0 : x.length = 0
  · rw [if_pos (by omega)]; exact yes _
  rw [if_neg (by omega)]
  by_cases c1 : (w.length : Int) > 5000
  · rw [if_pos c1]; exact yes _
  rw [if_neg c1]
  by_cases c2 : w.length % x.length = 0
  · have hz : ((w.length : Int) % (x.length : Int)) = 0 := by rw [← Int.natCast_emod]; omega
    have e : (w.length : Int) / (x.length : Int) = ((w.length / x.length : Nat) : Int) := by rw [Int.natCast_ediv]
    have hq : w.length / x.length ≤ w.length := Nat.div_le_self _ _
    have hm : w.length = w.length / x.length * x.length := by have := Nat.div_add_mod w.length x.length; rw [Nat.mul_comm]; omega
    rw [hz]
    simp only [aviarylaw04_VecRows.j0]
    rw [if_neg (by decide), if_neg (by omega), e]
    have hM := Mat_eq (k := k + 1) (rows := ((w.length / x.length : Nat) : Int)) hW hX (by omega) (by omega) (by omega)
    have hML := mat1_len x.length x (w.length / x.length) w
    clear e
    generalize w.length / x.length = q at *
    rw [if_neg (by intro h; rcases h with h | h | h | h <;> omega)] at hM
    rw [wrap64_id (by omega) (by omega), hM]
    simp only [Option.bind_some, if_true]
    rw [hML]
    simp only [aviarylaw04_VecRows.j1]
    rw [if_neg (by simp)]
    exact law_l0 hW hX (by omega) q hm (by omega) (by omega) q k 0 (by omega) (by omega)
  · rw [show (((w.length : Int) % (x.length : Int)) != 0) = true by rw [← Int.natCast_emod]; simp; omega]; exact yes _

end Go.Proofs.Ytbegoilegjinbaa.Pure
