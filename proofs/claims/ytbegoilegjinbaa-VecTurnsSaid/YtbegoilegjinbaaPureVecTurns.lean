/- Turned round alike, rows have the same sums of products; Inner does not hang on which row is the first: for any weights and as many numbers (at most 1000; of Inner's each brought below 2^20). No condition. -/
import Derived.Test.YtbegoilegjinbaaPVecTurnsx3
import Derived.Test.YtbegoilegjinbaaMSat
import Derived.Test.YtbegoilegjinbaaMVec
set_option linter.unusedVariables false
set_option linter.unusedSimpArgs false
namespace Go.Proofs.Ytbegoilegjinbaa.Pure
open Go Go.RowKit Go.Proofs.Ytbegoilegjinbaa.PVecTurns Go.Proofs.YtbegoilegjinbaaW.PrintWords Go.Proofs.YtbegoilegjinbaaW.PrintLast Go.Proofs.Ytbegoilegjinbaa.Mth
theorem Clamp_eq (x : Int) : sat_Clamp.f x = some (clampI x) := by unfold sat_Clamp.f; rw [clamp_f1]
theorem Add_eq {a b : Int} (ha : -9223372036854775808 ≤ a ∧ a ≤ 9223372036854775807) (hb : -9223372036854775808 ≤ b ∧ b ≤ 9223372036854775807) : sat_Add.f a b = some (saddI a b) := by
  unfold sat_Add.f
  have h := sadd_sign ha.1 ha.2 hb.1 hb.2
  by_cases c : (Go.bits .and .i64 (Go.bits .xor .i64 a (wrap64 (a + b))) (Go.bits .xor .i64 b (wrap64 (a + b)))) ≥ 0
  · rw [if_pos c]
    have h2 := h.1 c
    clear h c
    unfold wrap64 at *
    unfold saddI
    congr 1
    (repeat' split) <;> omega
  · rw [if_neg c]
    have h2 : ¬ ¬ _ := fun z => c (h.2 z)
    have h3 := Classical.not_not.1 h2
    clear h c h2
    unfold wrap64 at *
    unfold saddI
    (repeat' split) <;> first | rfl | omega
theorem Shift_eq {x : Int} (hx : -9223372036854775808 ≤ x ∧ x ≤ 9223372036854775807) (n : Int) : sat_Shift.f x n = some (shiftI x n) := by
  unfold sat_Shift.f shiftI
  have hm : mx (mn n 62) 0 = (nclampI n : Int) := by unfold mx mn nclampI; (repeat' split) <;> omega
  have hm2 : nclampI n ≤ 62 := by unfold nclampI; split <;> omega
  rw [hm]
  generalize nclampI n = m at *
  cases m with
  | zero => rfl
  | succ m =>
    rw [if_neg (by omega), if_pos (by omega)]
    have e1 : ((m + 1 : Nat) : Int).toNat = m + 1 := by omega
    have e2 : (((m + 1 : Nat) : Int) - 1).toNat = m := by omega
    rw [e1, e2]
    have hp := pow2_pos m
    have hP := pow2_succ m
    have hl := pow2_le62 hm2
    rw [wrap64_id (x := 2 ^ (m + 1)) (by omega) (by omega), wrap64_id (x := 2 ^ (m + 1) - 1) (by omega) (by omega), wrap64_id (x := 2 ^ m) (by omega) (by omega), bits_mask64 x (m + 1) hm2]
    have hr := Int.emod_nonneg x (show (2 : Int) ^ (m + 1) ≠ 0 by omega)
    have hr2 := Int.emod_lt_of_pos x (pow2_pos (m + 1))
    have hq := Int.mul_ediv_add_emod x (2 ^ (m + 1))
    have hqb : -9223372036854775808 ≤ x / 2 ^ (m + 1) + 1 ∧ x / 2 ^ (m + 1) + 1 ≤ 9223372036854775807 := by
      have h1 : x / 2 ^ (m + 1) ≤ 4611686018427387904 := by
        have := Int.ediv_le_ediv (c := 2 ^ (m + 1)) (by omega) hx.2
        have h3 : 9223372036854775807 / (2 : Int) ^ (m + 1) ≤ 4611686018427387904 := by
          have := Int.ediv_lt_of_lt_mul (a := 9223372036854775807) (b := 4611686018427387905) (c := 2 ^ (m + 1)) (by omega) (by omega)
          omega
        omega
      have h2 : -9223372036854775808 ≤ x / 2 ^ (m + 1) := by
        refine Int.le_ediv_of_mul_le (by omega) ?_
        omega
      omega
    rw [wrap64_id hqb.1 hqb.2]
    have key := rdivI_floor x m
    by_cases c : x % 2 ^ (m + 1) > 2 ^ m
    · rw [if_pos c, key, if_pos (Or.inl c)]
    · rw [if_neg c]
      by_cases d : x % 2 ^ (m + 1) = 2 ^ m
      · rw [if_pos d]
        by_cases e : x > 0
        · rw [if_pos e, key, if_pos (Or.inr ⟨d, e⟩)]
        · rw [if_neg e, key, if_neg (by omega)]
      · rw [if_neg d, key, if_neg (by omega)]
theorem Mul_eq (a b : Int) : sat_Mul.f a b = some (mulI a b) := by
  unfold sat_Mul.f mulI
  have h := clamp_prod a b
  rw [Clamp_eq, Clamp_eq]; simp only [Option.bind_some]
  rw [wrap64_id (by omega) (by omega), Shift_eq ⟨by omega, by omega⟩]; simp only [Option.bind_some]
  rw [Clamp_eq]; rfl
theorem sum8_l0 {w x : List Int} (hw : All8 w) (hx : All64 x) (hl : w.length = x.length) (hb : w.length ≤ 4611686018427387904) (d : Nat) : ∀ (k : Nat) (s i : Int), 0 ≤ i → (w.length : Int) - i = d → d < k → -9223372036854775808 ≤ s → s ≤ 9223372036854775807 →
    vec_sum_int8.l0 k x s w (w.length : Int) i = some (dotA s (w.drop i.toNat) (x.drop i.toNat)) := by
  induction d with
  | zero =>
    intro k s i h0 hd hk hs0 hs1
    obtain ⟨k, rfl⟩ : ∃ m, k = m + 1 := ⟨k - 1, by omega⟩
    simp only [vec_sum_int8.l0]
    rw [if_neg (by omega), drop_len (by omega)]
    rfl
  | succ d ih =>
    intro k s i h0 hd hk hs0 hs1
    obtain ⟨k, rfl⟩ : ∃ m, k = m + 1 := ⟨k - 1, by omega⟩
    have hp := clamp_prod (rd w i) (rd x i)
    have hr := rd8 hw i
    simp only [vec_sum_int8.l0]
    rw [if_pos (by omega), if_pos h0, if_pos (by omega), wrap64_id (x := rd w i) (by omega) (by omega), Clamp_eq]; simp only [Option.bind_some]
    rw [if_pos (by omega), Clamp_eq]; simp only [Option.bind_some]
    rw [wrap64_id (x := clampI (rd w i) * clampI (rd x i)) (by omega) (by omega), Add_eq ⟨hs0, hs1⟩ ⟨by omega, by omega⟩]; simp only [Option.bind_some]
    rw [wrap64_id (x := i + 1) (by omega) (by omega), ih k _ (i + 1) (by omega) (by omega) (by omega) (saddI_range _ _).1 (saddI_range _ _).2, drop_rd (l := w) h0 (by omega), drop_rd (l := x) h0 (by omega)]
    rfl
theorem sum8_eq {k : Nat} {w x : List Int} (hw : All8 w) (hx : All64 x) (hl : w.length = x.length) (hb : w.length ≤ 4611686018427387904) (hk : w.length < k) : vec_sum_int8.f k w x = some (dotA 0 w x) := by
  unfold vec_sum_int8.f
  rw [sum8_l0 hw hx hl hb w.length k 0 0 (by omega) (by omega) hk (by omega) (by omega)]
  rfl
theorem sum64_l0 {w x : List Int} (hw : All64 w) (hx : All64 x) (hl : w.length = x.length) (hb : w.length ≤ 4611686018427387904) (d : Nat) : ∀ (k : Nat) (s i : Int), 0 ≤ i → (w.length : Int) - i = d → d < k → -9223372036854775808 ≤ s → s ≤ 9223372036854775807 →
    vec_sum_int64.l0 k x s w (w.length : Int) i = some (dotA s (w.drop i.toNat) (x.drop i.toNat)) := by
  induction d with
  | zero =>
    intro k s i h0 hd hk hs0 hs1
    obtain ⟨k, rfl⟩ : ∃ m, k = m + 1 := ⟨k - 1, by omega⟩
    simp only [vec_sum_int64.l0]
    rw [if_neg (by omega), drop_len (by omega)]
    rfl
  | succ d ih =>
    intro k s i h0 hd hk hs0 hs1
    obtain ⟨k, rfl⟩ : ∃ m, k = m + 1 := ⟨k - 1, by omega⟩
    have hp := clamp_prod (rd w i) (rd x i)
    simp only [vec_sum_int64.l0]
    rw [if_pos (by omega), if_pos h0, if_pos (by omega), Clamp_eq]; simp only [Option.bind_some]
    rw [if_pos (by omega), Clamp_eq]; simp only [Option.bind_some]
    rw [wrap64_id (x := clampI (rd w i) * clampI (rd x i)) (by omega) (by omega), Add_eq ⟨hs0, hs1⟩ ⟨by omega, by omega⟩]; simp only [Option.bind_some]
    rw [wrap64_id (x := i + 1) (by omega) (by omega), ih k _ (i + 1) (by omega) (by omega) (by omega) (saddI_range _ _).1 (saddI_range _ _).2, drop_rd (l := w) h0 (by omega), drop_rd (l := x) h0 (by omega)]
    rfl
theorem sum64_eq {k : Nat} {w x : List Int} (hw : All64 w) (hx : All64 x) (hl : w.length = x.length) (hb : w.length ≤ 4611686018427387904) (hk : w.length < k) : vec_sum_int64.f k w x = some (dotA 0 w x) := by
  unfold vec_sum_int64.f
  rw [sum64_l0 hw hx hl hb w.length k 0 0 (by omega) (by omega) hk (by omega) (by omega)]
  rfl
theorem Dot_eq {k : Nat} {w x : List Int} (hw : All8 w) (hx : All64 x) (hb : w.length ≤ 4611686018427387904) (hk : w.length < k) : vec_Dot.f k w x = some (if w.length = x.length then (dotI w x, 0) else (0, 21)) := by
  unfold vec_Dot.f
  by_cases c : w.length = x.length
  · have hr := dotA_range 0 w x (by omega) (by omega)
    rw [if_pos (by omega), if_pos c, sum8_eq hw hx c hb hk]; simp only [Option.bind_some]
    rw [Shift_eq hr]; simp only [Option.bind_some]
    rw [Clamp_eq, shift_at nclamp6]; rfl
  · rw [if_neg (by omega), if_neg c]
theorem Inner_eq {k : Nat} {w x : List Int} (hw : All64 w) (hx : All64 x) (hb : w.length ≤ 4611686018427387904) (hk : w.length < k) : vec_Inner.f k w x = some (if w.length = x.length then (innerI w x, 0) else (0, 21)) := by
  unfold vec_Inner.f
  by_cases c : w.length = x.length
  · have hr := dotA_range 0 w x (by omega) (by omega)
    rw [if_pos (by omega), if_pos c, sum64_eq hw hx c hb hk]; simp only [Option.bind_some]
    rw [Shift_eq hr]; simp only [Option.bind_some]
    rw [Clamp_eq, shift_at nclamp16]; rfl
  · rw [if_neg (by omega), if_neg c]
theorem Same_l0 {a b : List Int} (hl : a.length = b.length) (hb : a.length ≤ 4611686018427387904) (d : Nat) : ∀ (k : Nat) (i : Int), 0 ≤ i → (a.length : Int) - i = d → d < k →
    aviaryref04_Same.l0 k a b i = some (decide (a.drop i.toNat = b.drop i.toNat)) := by
  induction d with
  | zero =>
    intro k i h0 hd hk
    obtain ⟨k, rfl⟩ : ∃ m, k = m + 1 := ⟨k - 1, by omega⟩
    simp only [aviaryref04_Same.l0]
    rw [if_neg (by omega), drop_len (by omega), drop_len (by omega)]
    simp
  | succ d ih =>
    intro k i h0 hd hk
    obtain ⟨k, rfl⟩ : ∃ m, k = m + 1 := ⟨k - 1, by omega⟩
    simp only [aviaryref04_Same.l0]
    rw [if_pos (by omega), if_pos h0, if_pos (by omega), drop_rd (l := a) h0 (by omega), drop_rd (l := b) h0 (by omega)]
    by_cases c : rd a i = rd b i
    · rw [if_pos c, wrap64_id (x := i + 1) (by omega) (by omega), ih k (i + 1) (by omega) (by omega) (by omega), c]
      simp
    · rw [if_neg c]
      simp [c]
theorem Same_eq {k : Nat} {a b : List Int} (hb : a.length ≤ 4611686018427387904) (hk : a.length < k) : aviaryref04_Same.f k a b = some (decide (a = b)) := by
  unfold aviaryref04_Same.f
  by_cases c : a.length = b.length
  · rw [if_pos (by omega), Same_l0 c hb a.length k 0 (by omega) (by omega) hk]
    rfl
  · rw [if_neg (by omega)]
    have : a ≠ b := fun h => c (by rw [h])
    simp [this]
theorem Same_refl {k : Nat} {a : List Int} (hb : a.length ≤ 4611686018427387904) (hk : a.length < k) : aviaryref04_Same.f k a a = some true := by rw [Same_eq hb hk]; simp
theorem Scale_l0 {x : List Int} (n : Int) (hb : x.length ≤ 4611686018427387904) (d : Nat) : ∀ (k : Nat) (i : Int), 0 ≤ i → (x.length : Int) - i = d → d < k →
    vec_Scale.l0 k n (fillI (scaleI x n) i) x (x.length : Int) i = some (scaleI x n) := by
  have hL : (scaleI x n).length = x.length := by simp [scaleI]
  induction d with
  | zero =>
    intro k i h0 hd hk
    obtain ⟨k, rfl⟩ : ∃ m, k = m + 1 := ⟨k - 1, by omega⟩
    simp only [vec_Scale.l0]
    rw [if_neg (by omega), fillI_end (by omega)]
  | succ d ih =>
    intro k i h0 hd hk
    obtain ⟨k, rfl⟩ : ∃ m, k = m + 1 := ⟨k - 1, by omega⟩
    simp only [vec_Scale.l0]
    rw [if_pos (by omega), if_pos h0, if_pos (by omega), Mul_eq]; simp only [Option.bind_some]
    have e : mulI (rd x i) n = rd (scaleI x n) i := by unfold scaleI; rw [rd_map h0 (by omega)]
    rw [if_pos (by rw [fillI_len (by omega)]; omega), e, fillI_set h0 (by omega), wrap64_id (x := i + 1) (by omega) (by omega)]
    exact ih k (i + 1) (by omega) (by omega) (by omega)
theorem Scale_eq {k : Nat} {x : List Int} (n : Int) (hb : x.length ≤ 35184372088832) (hk : x.length < k) : vec_Scale.f k x n = some (scaleI x n) := by
  unfold vec_Scale.f
  have hL : (scaleI x n).length = x.length := by simp [scaleI]
  have e : List.replicate ((x.length : Int)).toNat (0 : Int) = fillI (scaleI x n) 0 := by rw [fillI_zero, hL]; rfl
  rw [if_pos (by omega), if_pos (by omega), e, Scale_l0 n (by omega) x.length k 0 (by omega) (by omega) hk]
theorem Mat_l0 {x : List Int} (hx : All64 x) (hn : 0 < x.length) (hxl : x.length ≤ 4611686018427387904) (r : Nat) : ∀ (k : Nat) (w acc : List Int), All8 w → w.length = r * x.length → acc.length + r ≤ 17592186044416 → r + x.length + 1 < k →
    vec_Mat.l0 k w x (x.length : Int) acc = some (acc ++ mat1 x.length x r w, 0) := by
  induction r with
  | zero =>
    intro k w acc hw hl ha hk
    obtain ⟨k, rfl⟩ : ∃ m, k = m + 1 := ⟨k - 1, by omega⟩
    simp only [vec_Mat.l0]
    rw [if_neg (by omega)]
    simp [mat1]
  | succ r ih =>
    intro k w acc hw hl ha hk
    obtain ⟨k, rfl⟩ : ∃ m, k = m + 1 := ⟨k - 1, by omega⟩
    have hl' : w.length = r * x.length + x.length := by rw [hl, Nat.succ_mul]
    have hnn : ((x.length : Int)).toNat = x.length := by omega
    have ht : (w.take x.length).length = x.length := by rw [List.length_take]; omega
    simp only [vec_Mat.l0]
    rw [if_pos (by omega), if_pos (by omega), if_pos (by omega), hnn, Dot_eq (fun y hy => hw y (List.mem_of_mem_take hy)) hx (by omega) (by omega), if_pos ht]
    simp only [Option.bind_some]
    rw [if_pos (by omega), ih k _ _ (fun y hy => hw y (List.mem_of_mem_drop hy)) (by rw [List.length_drop]; omega) (by rw [List.length_append]; simp; omega) (by omega)]
    simp [mat1]
theorem Mat_eq {k : Nat} {w x : List Int} {rows : Int} (hw : All8 w) (hx : All64 x) (hb : w.length ≤ 17592186044416) (hxl : x.length ≤ 4611686018427387904) (hk : w.length + x.length + 2 < k) :
    vec_Mat.f k w rows x = some (if x.length = 0 ∨ rows < 0 ∨ w.length % x.length ≠ 0 ∨ ((w.length / x.length : Nat) : Int) ≠ rows then ([], 21) else (mat1 x.length x (w.length / x.length) w, 0)) := by
  obtain ⟨k, rfl⟩ : ∃ m, k = m + 1 := ⟨k - 1, by omega⟩
  have bad : vec_Mat.j0 (k + 1) w x (x.length : Int) true = some ([], 21) := by simp [vec_Mat.j0]
  unfold vec_Mat.f
  by_cases c1 : x.length = 0
  · rw [if_pos (by omega), bad, if_pos (Or.inl c1)]
  · rw [if_neg (by omega)]
    by_cases c2 : rows < 0
    · rw [if_pos c2, bad, if_pos (Or.inr (Or.inl c2))]
    · rw [if_neg c2]
      by_cases c3 : w.length % x.length = 0
      · have e : (w.length : Int) / (x.length : Int) = ((w.length / x.length : Nat) : Int) := by rw [Int.natCast_ediv]
        have hq : w.length / x.length ≤ w.length := Nat.div_le_self _ _
        have hm : w.length = w.length / x.length * x.length := by have := Nat.div_add_mod w.length x.length; rw [Nat.mul_comm]; omega
        have hz : ((w.length : Int) % (x.length : Int)) = 0 := by rw [← Int.natCast_emod]; omega
        rw [if_pos hz, e]
        clear e hz
        generalize w.length / x.length = q at *
        rw [wrap64_id (by omega) (by omega)]
        by_cases c4 : (q : Int) = rows
        · rw [if_neg (by simp [c1, c2, c3, c4])]
          simp only [vec_Mat.j0]
          rw [if_neg (by simp [c4]), Mat_l0 hx (by omega) hxl q k w [] hw hm (by simp; omega) (by omega)]
          rfl
        · rw [if_pos (Or.inr (Or.inr (Or.inr c4))), show ((q : Int) != rows) = true by simp [c4], bad]
      · rw [if_neg (by rw [← Int.natCast_emod]; omega), bad, if_pos (Or.inr (Or.inr (Or.inl c3)))]
theorem works_eq {k : Nat} (hk : 100 < k) : aviarylaw04_works.f k = some true := by
  have a1 : All8 [64, -64] := by intro x hx; simp at hx; omega
  have a2 : All64 [65536, 32768] := by intro x hx; simp at hx; omega
  have a3 : All8 [64, 0, 0, 64] := by intro x hx; simp at hx; omega
  have a4 : All64 [5, 7] := by intro x hx; simp at hx; omega
  have a5 : All8 [1] := by intro x hx; simp at hx; omega
  have a6 : All64 [] := by intro x hx; simp at hx
  unfold aviarylaw04_works.f
  rw [Dot_eq a1 a2 (by simp) (by simp; omega), Mat_eq a3 a4 (by simp) (by simp) (by simp; omega), Dot_eq a5 a6 (by simp) (by simp; omega), Scale_eq 98304 (by simp) (by simp; omega)]
  have e1 : dotI [64, -64] [65536, 32768] = 32768 := by decide +kernel
  have e2 : mat1 2 [5, 7] 2 [64, 0, 0, 64] = [5, 7] := by decide +kernel
  have e3 : scaleI [2] 98304 = [3] := by decide +kernel
  simp only [Option.bind_some, List.length_cons, List.length_nil]
  simp [e1, e2, e3, Same_eq (show ([5, 7] : List Int).length ≤ 4611686018427387904 by decide) (show ([5, 7] : List Int).length < k by simp; omega), Same_eq (show ([3] : List Int).length ≤ 4611686018427387904 by decide) (show ([3] : List Int).length < k by simp; omega)]

def small (x : List Int) : List Int := x.map (fun v => Int.tmod v 1048576)
theorem tmod_b (v : Int) : -1048576 < Int.tmod v 1048576 ∧ Int.tmod v 1048576 < 1048576 := by
  have h1 := Int.tmod_lt_of_pos v (show (0 : Int) < 1048576 by decide)
  have h2 := Int.tmod_lt_of_pos (-v) (show (0 : Int) < 1048576 by decide)
  rw [Int.neg_tmod] at h2
  omega
theorem small_b (x : List Int) : ∀ y ∈ small x, -1048576 < y ∧ y < 1048576 := by
  intro y hy
  obtain ⟨v, _, rfl⟩ := List.mem_map.1 hy
  exact tmod_b v
theorem rev_rd {l : List Int} {i : Int} (h0 : 0 ≤ i) (h1 : i < l.length) : (l.drop (i + 1).toNat).reverse ++ [rd l i] = (l.drop i.toNat).reverse := by
  rw [drop_rd h0 h1, List.reverse_cons]
theorem dot_rev {w a : List Int} (hw : All8 w) (hl : w.length = a.length) (hb : w.length ≤ 1000) : dotI w a = dotI w.reverse a.reverse := by
  have key : ∀ w a : List Int, All8 w → w.length ≤ 1000 → dotA 0 w a = psum w a := by
    intro w a hw hb
    have h := (dotA_exact 274877906944 (by omega) w a 0 (fun x hx y hy => by
      have h1 := hw x hx
      have h2 := clampI_range y
      rw [clampI_id (x := x) (by omega) (by omega)]
      have := prod_range (x := x) (y := clampI y) (A := 128) (B := 2147483648) (by omega) (by omega) (by omega) (by omega)
      omega) (by omega) (by omega)).1
    omega
  unfold dotI
  rw [key w a hw hb, key w.reverse a.reverse (fun x hx => hw x (List.mem_reverse.1 hx)) (by simpa using hb), psum_reverse w a hl]
theorem inner_comm {a b : List Int} (ha : ∀ y ∈ a, -1048576 < y ∧ y < 1048576) (hb : ∀ y ∈ b, -1048576 < y ∧ y < 1048576) (h1 : a.length ≤ 1000) (h2 : b.length ≤ 1000) : innerI a b = innerI b a := by
  have key : ∀ a b : List Int, (∀ y ∈ a, -1048576 < y ∧ y < 1048576) → (∀ y ∈ b, -1048576 < y ∧ y < 1048576) → a.length ≤ 1000 → dotA 0 a b = psum a b := by
    intro a b ha hb hl
    have h := (dotA_exact 1099511627776 (by omega) a b 0 (fun x hx y hy => by
      have h1 := ha x hx
      have h2 := hb y hy
      rw [clampI_id (x := x) (by omega) (by omega), clampI_id (x := y) (by omega) (by omega)]
      have := prod_range (x := x) (y := y) (A := 1048576) (B := 1048576) (by omega) (by omega) (by omega) (by omega)
      omega) (by omega) (by omega)).1
    omega
  unfold innerI
  rw [key a b ha hb h1, key b a hb ha h2, psum_comm]
theorem law_l0 {w a b : List Int} (hw : All8 w) (ha : All64 a) (h1 : w.length = a.length) (h2 : a.length = b.length) (hb : a.length ≤ 1000) (d : Nat) : ∀ (k : Nat) (i : Int), -1 ≤ i → i < a.length → i + 1 = d → d + a.length + 5 < k →
    aviarylaw04_VecTurns.l0 k w a b (w.drop (i + 1).toNat).reverse (a.drop (i + 1).toNat).reverse ((small a).drop (i + 1).toNat).reverse ((small b).drop (i + 1).toNat).reverse i = some true := by
  have hsa := small_b a
  have hsb := small_b b
  have la : (small a).length = a.length := by simp [small]
  have lb : (small b).length = b.length := by simp [small]
  induction d with
  | zero =>
    intro k i h0 hi hd hk
    obtain ⟨k, rfl⟩ : ∃ m, k = m + 1 := ⟨k - 1, by omega⟩
    have e : (i + 1).toNat = 0 := by omega
    rw [e]
    simp only [List.drop_zero]
    simp only [aviarylaw04_VecTurns.l0]
    rw [if_neg (by omega)]
    have r1 : ∀ y ∈ (small a).reverse, -1048576 < y ∧ y < 1048576 := fun y hy => hsa y (List.mem_reverse.1 hy)
    have r2 : ∀ y ∈ (small b).reverse, -1048576 < y ∧ y < 1048576 := fun y hy => hsb y (List.mem_reverse.1 hy)
    have r3 : All64 (small a).reverse := fun y hy => by have := r1 y hy; omega
    have r4 : All64 (small b).reverse := fun y hy => by have := r2 y hy; omega
    have q1 : (small a).reverse.length = (small b).reverse.length := by simp [la, lb, h2]
    rw [Dot_eq hw ha (by omega) (by omega), if_pos h1]
    simp only [Option.bind_some]
    rw [Dot_eq (fun x hx => hw x (List.mem_reverse.1 hx)) (fun x hx => ha x (List.mem_reverse.1 hx)) (by simp; omega) (by simp; omega), if_pos (by simpa using h1)]
    simp only [Option.bind_some]
    rw [Inner_eq r3 r4 (by simp; omega) (by simp; omega), if_pos q1]
    simp only [Option.bind_some]
    rw [Inner_eq r4 r3 (by simp; omega) (by simp; omega), if_pos q1.symm]
    simp only [Option.bind_some]
    rw [if_pos (dot_rev hw h1 (by omega)), if_pos (inner_comm r1 r2 (by simp; omega) (by simp; omega))]
    simp
  | succ d ih =>
    intro k i h0 hi hd hk
    obtain ⟨k, rfl⟩ : ∃ m, k = m + 1 := ⟨k - 1, by omega⟩
    have e1 : Int.tmod (rd a i) 1048576 = rd (small a) i := by unfold small; rw [rd_map (by omega) (by omega)]
    have e2 : Int.tmod (rd b i) 1048576 = rd (small b) i := by unfold small; rw [rd_map (by omega) (by omega)]
    have ew : wrap64 (i - 1) = i - 1 := wrap64_id (by omega) (by omega)
    have ih' := ih k (i - 1) (by omega) (by omega) (by omega) (by omega)
    rw [show i - 1 + 1 = i by omega] at ih'
    simp only [aviarylaw04_VecTurns.l0]
    rw [if_pos (by omega), if_pos (by omega), if_pos (by omega)]
    simp only [Option.bind_some, List.length_cons, List.length_nil]
    rw [if_pos (by simp; omega), if_pos (by omega), if_pos (by simp; omega), if_pos (by simp; omega), if_pos (by omega), if_pos (by simp; omega), e1, e2,
      rev_rd (by omega) (by omega), rev_rd (by omega) (by omega), rev_rd (by omega) (by omega), rev_rd (by omega) (by omega), ew]
    exact ih'
theorem VecTurns : aviarylaw04_VecTurns.Pure := by
  intro w a b hw0 hw1 hw ha0 ha1 ha hb0 hb1 hb
  have hW := all8 hw
  have hA := all64 ha
  refine ⟨a.length + a.length + 200, ?_⟩
  obtain ⟨k, hk⟩ : ∃ k, a.length + a.length + 200 = k + 1 := ⟨a.length + a.length + 199, rfl⟩
  unfold aviarylaw04_VecTurns.f
  rw [works_eq (by omega), Option.bind_some, if_pos rfl, hk]
  have yes : aviarylaw04_VecTurns.j0 (k + 1) w a b true = some true := by simp [aviarylaw04_VecTurns.j0]
  by_cases c0 : w.length = a.length
  · rw [if_pos (by omega)]
    by_cases c2 : a.length = b.length
    · rw [if_pos (by omega)]
      by_cases c1 : a.length > 1000
      · rw [show decide ((a.length : Int) > 1000) = true by simp; omega]; exact yes
      · rw [show decide ((a.length : Int) > 1000) = false by simp; omega]
        simp only [aviarylaw04_VecTurns.j0]
        rw [if_neg (by decide), wrap64_id (by omega) (by omega)]
        have h := law_l0 hW hA c0 c2 (by omega) a.length k ((a.length : Int) - 1) (by omega) (by omega) (by omega) (by omega)
        have e : ((a.length : Int) - 1 + 1).toNat = a.length := by omega
        have hd : ∀ l : List Int, l.length = a.length → l.drop a.length = [] := fun l hl => List.drop_eq_nil_of_le (by omega)
        rw [e, hd w (by omega), hd a rfl, hd (small a) (by simp [small]), hd (small b) (by simp [small]; omega)] at h
        exact h
    · rw [if_neg (by omega)]; exact yes
  · rw [if_neg (by omega)]; exact yes

end Go.Proofs.Ytbegoilegjinbaa.Pure
