/- A sum of products is that of its parts together, off by one at most for the rounding: for any weights and as many numbers (at most 100, each brought below 2^20), cut at any place. No condition. -/
import Derived.Test.YtbegoilegjinbaaPVecSplitx3
import Derived.Test.YtbegoilegjinbaaMSat
import Derived.Test.YtbegoilegjinbaaMVec
set_option linter.unusedVariables false
set_option linter.unusedSimpArgs false
namespace Go.Proofs.Ytbegoilegjinbaa.Pure
open Go Go.RowKit Go.Proofs.Ytbegoilegjinbaa.PVecSplit Go.Proofs.YtbegoilegjinbaaW.PrintWords Go.Proofs.YtbegoilegjinbaaW.PrintLast Go.Proofs.Ytbegoilegjinbaa.Mth
theorem Clamp_eq (x : Int) : sat_Clamp.f x = some (clampI x) := by unfold sat_Clamp.f; rw [clamp_f1]
theorem Add_eq {a b : Int} (ha : -9223372036854775808 ≤ a ∧ a ≤ 9223372036854775807) (hb : -9223372036854775808 ≤ b ∧ b ≤ 9223372036854775807) : sat_Add.f a b = some (saddI a b) := by
  unfold sat_Add.f
  have h := sadd_sign ha.1 ha.2 hb.1 hb.2
  by_cases c : (Go.bits .and .i64 (Go.bits .xor .i64 a (wrap64 (a + b))) (Go.bits .xor .i64 b (wrap64 (a + b)))) ≥ 0
  · rw [if_pos c]
    have h2 := h.1 c
    clear h c
    unfold wrap64 at *
    unfold saddI
    congr 1
    (repeat' split) <;> omega
  · rw [if_neg c]
    have h2 : ¬ ¬ _ := fun z => c (h.2 z)
    have h3 := Classical.not_not.1 h2
    clear h c h2
    unfold wrap64 at *
    unfold saddI
    (repeat' split) <;> first | rfl | omega
theorem Shift_eq {x : Int} (hx : -9223372036854775808 ≤ x ∧ x ≤ 9223372036854775807) (n : Int) : sat_Shift.f x n = some (shiftI x n) := by
  unfold sat_Shift.f shiftI
  have hm : mx (mn n 62) 0 = (nclampI n : Int) := by unfold mx mn nclampI; (repeat' split) <;> omega
  have hm2 : nclampI n ≤ 62 := by unfold nclampI; split <;> omega
  rw [hm]
  generalize nclampI n = m at *
  cases m with
  | zero => rfl
  | succ m =>
    rw [if_neg (by omega), if_pos (by omega)]
    have e1 : ((m + 1 : Nat) : Int).toNat = m + 1 := by omega
    have e2 : (((m + 1 : Nat) : Int) - 1).toNat = m := by omega
    rw [e1, e2]
    have hp := pow2_pos m
    have hP := pow2_succ m
    have hl := pow2_le62 hm2
    rw [wrap64_id (x := 2 ^ (m + 1)) (by omega) (by omega), wrap64_id (x := 2 ^ (m + 1) - 1) (by omega) (by omega), wrap64_id (x := 2 ^ m) (by omega) (by omega), bits_mask64 x (m + 1) hm2]
    have hr := Int.emod_nonneg x (show (2 : Int) ^ (m + 1) ≠ 0 by omega)
    have hr2 := Int.emod_lt_of_pos x (pow2_pos (m + 1))
    have hq := Int.mul_ediv_add_emod x (2 ^ (m + 1))
    have hqb : -9223372036854775808 ≤ x / 2 ^ (m + 1) + 1 ∧ x / 2 ^ (m + 1) + 1 ≤ 9223372036854775807 := by
      have h1 : x / 2 ^ (m + 1) ≤ 4611686018427387904 := by
        have := Int.ediv_le_ediv (c := 2 ^ (m + 1)) (by omega) hx.2
        have h3 : 9223372036854775807 / (2 : Int) ^ (m + 1) ≤ 4611686018427387904 := by
          have := Int.ediv_lt_of_lt_mul (a := 9223372036854775807) (b := 4611686018427387905) (c := 2 ^ (m + 1)) (by omega) (by omega)
          omega
        omega
      have h2 : -9223372036854775808 ≤ x / 2 ^ (m + 1) := by
        refine Int.le_ediv_of_mul_le (by omega) ?_
        omega
      omega
    rw [wrap64_id hqb.1 hqb.2]
    have key := rdivI_floor x m
    by_cases c : x % 2 ^ (m + 1) > 2 ^ m
    · rw [if_pos c, key, if_pos (Or.inl c)]
    · rw [if_neg c]
      by_cases d : x % 2 ^ (m + 1) = 2 ^ m
      · rw [if_pos d]
        by_cases e : x > 0
        · rw [if_pos e, key, if_pos (Or.inr ⟨d, e⟩)]
        · rw [if_neg e, key, if_neg (by omega)]
      · rw [if_neg d, key, if_neg (by omega)]
theorem Mul_eq (a b : Int) : sat_Mul.f a b = some (mulI a b) := by
  unfold sat_Mul.f mulI
  have h := clamp_prod a b
  rw [Clamp_eq, Clamp_eq]; simp only [Option.bind_some]
  rw [wrap64_id (by omega) (by omega), Shift_eq ⟨by omega, by omega⟩]; simp only [Option.bind_some]
  rw [Clamp_eq]; rfl
theorem sum8_l0 {w x : List Int} (hw : All8 w) (hx : All64 x) (hl : w.length = x.length) (hb : w.length ≤ 4611686018427387904) (d : Nat) : ∀ (k : Nat) (s i : Int), 0 ≤ i → (w.length : Int) - i = d → d < k → -9223372036854775808 ≤ s → s ≤ 9223372036854775807 →
    vec_sum_int8.l0 k x s w (w.length : Int) i = some (dotA s (w.drop i.toNat) (x.drop i.toNat)) := by
  induction d with
  | zero =>
    intro k s i h0 hd hk hs0 hs1
    obtain ⟨k, rfl⟩ : ∃ m, k = m + 1 := ⟨k - 1, by omega⟩
    simp only [vec_sum_int8.l0]
    rw [if_neg (by omega), drop_len (by omega)]
    rfl
  | succ d ih =>
    intro k s i h0 hd hk hs0 hs1
    obtain ⟨k, rfl⟩ : ∃ m, k = m + 1 := ⟨k - 1, by omega⟩
    have hp := clamp_prod (rd w i) (rd x i)
    have hr := rd8 hw i
    simp only [vec_sum_int8.l0]
    rw [if_pos (by omega), if_pos h0, if_pos (by omega), wrap64_id (x := rd w i) (by omega) (by omega), Clamp_eq]; simp only [Option.bind_some]
    rw [if_pos (by omega), Clamp_eq]; simp only [Option.bind_some]
    rw [wrap64_id (x := clampI (rd w i) * clampI (rd x i)) (by omega) (by omega), Add_eq ⟨hs0, hs1⟩ ⟨by omega, by omega⟩]; simp only [Option.bind_some]
    rw [wrap64_id (x := i + 1) (by omega) (by omega), ih k _ (i + 1) (by omega) (by omega) (by omega) (saddI_range _ _).1 (saddI_range _ _).2, drop_rd (l := w) h0 (by omega), drop_rd (l := x) h0 (by omega)]
    rfl
theorem sum8_eq {k : Nat} {w x : List Int} (hw : All8 w) (hx : All64 x) (hl : w.length = x.length) (hb : w.length ≤ 4611686018427387904) (hk : w.length < k) : vec_sum_int8.f k w x = some (dotA 0 w x) := by
  unfold vec_sum_int8.f
  rw [sum8_l0 hw hx hl hb w.length k 0 0 (by omega) (by omega) hk (by omega) (by omega)]
  rfl
theorem Dot_eq {k : Nat} {w x : List Int} (hw : All8 w) (hx : All64 x) (hb : w.length ≤ 4611686018427387904) (hk : w.length < k) : vec_Dot.f k w x = some (if w.length = x.length then (dotI w x, 0) else (0, 21)) := by
  unfold vec_Dot.f
  by_cases c : w.length = x.length
  · have hr := dotA_range 0 w x (by omega) (by omega)
    rw [if_pos (by omega), if_pos c, sum8_eq hw hx c hb hk]; simp only [Option.bind_some]
    rw [Shift_eq hr]; simp only [Option.bind_some]
    rw [Clamp_eq, shift_at nclamp6]; rfl
  · rw [if_neg (by omega), if_neg c]
theorem Same_l0 {a b : List Int} (hl : a.length = b.length) (hb : a.length ≤ 4611686018427387904) (d : Nat) : ∀ (k : Nat) (i : Int), 0 ≤ i → (a.length : Int) - i = d → d < k →
    aviaryref04_Same.l0 k a b i = some (decide (a.drop i.toNat = b.drop i.toNat)) := by
  induction d with
  | zero =>
    intro k i h0 hd hk
    obtain ⟨k, rfl⟩ : ∃ m, k = m + 1 := ⟨k - 1, by omega⟩
    simp only [aviaryref04_Same.l0]
    rw [if_neg (by omega), drop_len (by omega), drop_len (by omega)]
    simp
  | succ d ih =>
    intro k i h0 hd hk
    obtain ⟨k, rfl⟩ : ∃ m, k = m + 1 := ⟨k - 1, by omega⟩
    simp only [aviaryref04_Same.l0]
    rw [if_pos (by omega), if_pos h0, if_pos (by omega), drop_rd (l := a) h0 (by omega), drop_rd (l := b) h0 (by omega)]
    by_cases c : rd a i = rd b i
    · rw [if_pos c, wrap64_id (x := i + 1) (by omega) (by omega), ih k (i + 1) (by omega) (by omega) (by omega), c]
      simp
    · rw [if_neg c]
      simp [c]
theorem Same_eq {k : Nat} {a b : List Int} (hb : a.length ≤ 4611686018427387904) (hk : a.length < k) : aviaryref04_Same.f k a b = some (decide (a = b)) := by
  unfold aviaryref04_Same.f
  by_cases c : a.length = b.length
  · rw [if_pos (by omega), Same_l0 c hb a.length k 0 (by omega) (by omega) hk]
    rfl
  · rw [if_neg (by omega)]
    have : a ≠ b := fun h => c (by rw [h])
    simp [this]
theorem Same_refl {k : Nat} {a : List Int} (hb : a.length ≤ 4611686018427387904) (hk : a.length < k) : aviaryref04_Same.f k a a = some true := by rw [Same_eq hb hk]; simp
theorem Scale_l0 {x : List Int} (n : Int) (hb : x.length ≤ 4611686018427387904) (d : Nat) : ∀ (k : Nat) (i : Int), 0 ≤ i → (x.length : Int) - i = d → d < k →
    vec_Scale.l0 k n (fillI (scaleI x n) i) x (x.length : Int) i = some (scaleI x n) := by
  have hL : (scaleI x n).length = x.length := by simp [scaleI]
  induction d with
  | zero =>
    intro k i h0 hd hk
    obtain ⟨k, rfl⟩ : ∃ m, k = m + 1 := ⟨k - 1, by omega⟩
    simp only [vec_Scale.l0]
    rw [if_neg (by omega), fillI_end (by omega)]
  | succ d ih =>
    intro k i h0 hd hk
    obtain ⟨k, rfl⟩ : ∃ m, k = m + 1 := ⟨k - 1, by omega⟩
    simp only [vec_Scale.l0]
    rw [if_pos (by omega), if_pos h0, if_pos (by omega), Mul_eq]; simp only [Option.bind_some]
    have e : mulI (rd x i) n = rd (scaleI x n) i := by unfold scaleI; rw [rd_map h0 (by omega)]
    rw [if_pos (by rw [fillI_len (by omega)]; omega), e, fillI_set h0 (by omega), wrap64_id (x := i + 1) (by omega) (by omega)]
    exact ih k (i + 1) (by omega) (by omega) (by omega)
theorem Scale_eq {k : Nat} {x : List Int} (n : Int) (hb : x.length ≤ 35184372088832) (hk : x.length < k) : vec_Scale.f k x n = some (scaleI x n) := by
  unfold vec_Scale.f
  have hL : (scaleI x n).length = x.length := by simp [scaleI]
  have e : List.replicate ((x.length : Int)).toNat (0 : Int) = fillI (scaleI x n) 0 := by rw [fillI_zero, hL]; rfl
  rw [if_pos (by omega), if_pos (by omega), e, Scale_l0 n (by omega) x.length k 0 (by omega) (by omega) hk]
theorem Mat_l0 {x : List Int} (hx : All64 x) (hn : 0 < x.length) (hxl : x.length ≤ 4611686018427387904) (r : Nat) : ∀ (k : Nat) (w acc : List Int), All8 w → w.length = r * x.length → acc.length + r ≤ 17592186044416 → r + x.length + 1 < k →
    vec_Mat.l0 k w x (x.length : Int) acc = some (acc ++ mat1 x.length x r w, 0) := by
  induction r with
  | zero =>
    intro k w acc hw hl ha hk
    obtain ⟨k, rfl⟩ : ∃ m, k = m + 1 := ⟨k - 1, by omega⟩
    simp only [vec_Mat.l0]
    rw [if_neg (by omega)]
    simp [mat1]
  | succ r ih =>
    intro k w acc hw hl ha hk
    obtain ⟨k, rfl⟩ : ∃ m, k = m + 1 := ⟨k - 1, by omega⟩
    have hl' : w.length = r * x.length + x.length := by rw [hl, Nat.succ_mul]
    have hnn : ((x.length : Int)).toNat = x.length := by omega
    have ht : (w.take x.length).length = x.length := by rw [List.length_take]; omega
    simp only [vec_Mat.l0]
    rw [if_pos (by omega), if_pos (by omega), if_pos (by omega), hnn, Dot_eq (fun y hy => hw y (List.mem_of_mem_take hy)) hx (by omega) (by omega), if_pos ht]
    simp only [Option.bind_some]
    rw [if_pos (by omega), ih k _ _ (fun y hy => hw y (List.mem_of_mem_drop hy)) (by rw [List.length_drop]; omega) (by rw [List.length_append]; simp; omega) (by omega)]
    simp [mat1]
theorem Mat_eq {k : Nat} {w x : List Int} {rows : Int} (hw : All8 w) (hx : All64 x) (hb : w.length ≤ 17592186044416) (hxl : x.length ≤ 4611686018427387904) (hk : w.length + x.length + 2 < k) :
    vec_Mat.f k w rows x = some (if x.length = 0 ∨ rows < 0 ∨ w.length % x.length ≠ 0 ∨ ((w.length / x.length : Nat) : Int) ≠ rows then ([], 21) else (mat1 x.length x (w.length / x.length) w, 0)) := by
  obtain ⟨k, rfl⟩ : ∃ m, k = m + 1 := ⟨k - 1, by omega⟩
  have bad : vec_Mat.j0 (k + 1) w x (x.length : Int) true = some ([], 21) := by simp [vec_Mat.j0]
  unfold vec_Mat.f
  by_cases c1 : x.length = 0
  · rw [if_pos (by omega), bad, if_pos (Or.inl c1)]
  · rw [if_neg (by omega)]
    by_cases c2 : rows < 0
    · rw [if_pos c2, bad, if_pos (Or.inr (Or.inl c2))]
    · rw [if_neg c2]
      by_cases c3 : w.length % x.length = 0
      · have e : (w.length : Int) / (x.length : Int) = ((w.length / x.length : Nat) : Int) := by rw [Int.natCast_ediv]
        have hq : w.length / x.length ≤ w.length := Nat.div_le_self _ _
        have hm : w.length = w.length / x.length * x.length := by have := Nat.div_add_mod w.length x.length; rw [Nat.mul_comm]; omega
        have hz : ((w.length : Int) % (x.length : Int)) = 0 := by rw [← Int.natCast_emod]; omega
        rw [if_pos hz, e]
        clear e hz
        generalize w.length / x.length = q at *
        rw [wrap64_id (by omega) (by omega)]
        by_cases c4 : (q : Int) = rows
        · rw [if_neg (by simp [c1, c2, c3, c4])]
          simp only [vec_Mat.j0]
          rw [if_neg (by simp [c4]), Mat_l0 hx (by omega) hxl q k w [] hw hm (by simp; omega) (by omega)]
          rfl
        · rw [if_pos (Or.inr (Or.inr (Or.inr c4))), show ((q : Int) != rows) = true by simp [c4], bad]
      · rw [if_neg (by rw [← Int.natCast_emod]; omega), bad, if_pos (Or.inr (Or.inr (Or.inl c3)))]
theorem works_eq {k : Nat} (hk : 100 < k) : aviarylaw04_works.f k = some true := by
  have a1 : All8 [64, -64] := by intro x hx; simp at hx; omega
  have a2 : All64 [65536, 32768] := by intro x hx; simp at hx; omega
  have a3 : All8 [64, 0, 0, 64] := by intro x hx; simp at hx; omega
  have a4 : All64 [5, 7] := by intro x hx; simp at hx; omega
  have a5 : All8 [1] := by intro x hx; simp at hx; omega
  have a6 : All64 [] := by intro x hx; simp at hx
  unfold aviarylaw04_works.f
  rw [Dot_eq a1 a2 (by simp) (by simp; omega), Mat_eq a3 a4 (by simp) (by simp) (by simp; omega), Dot_eq a5 a6 (by simp) (by simp; omega), Scale_eq 98304 (by simp) (by simp; omega)]
  have e1 : dotI [64, -64] [65536, 32768] = 32768 := by decide +kernel
  have e2 : mat1 2 [5, 7] 2 [64, 0, 0, 64] = [5, 7] := by decide +kernel
  have e3 : scaleI [2] 98304 = [3] := by decide +kernel
  simp only [Option.bind_some, List.length_cons, List.length_nil]
  simp [e1, e2, e3, Same_eq (show ([5, 7] : List Int).length ≤ 4611686018427387904 by decide) (show ([5, 7] : List Int).length < k by simp; omega), Same_eq (show ([3] : List Int).length ≤ 4611686018427387904 by decide) (show ([3] : List Int).length < k by simp; omega)]

def small (x : List Int) : List Int := x.map (fun v => Int.tmod v 1048576)
theorem tmod_b (v : Int) : -1048576 < Int.tmod v 1048576 ∧ Int.tmod v 1048576 < 1048576 := by
  have h1 := Int.tmod_lt_of_pos v (show (0 : Int) < 1048576 by decide)
  have h2 := Int.tmod_lt_of_pos (-v) (show (0 : Int) < 1048576 by decide)
  rw [Int.neg_tmod] at h2
  omega
theorem small_b (x : List Int) : ∀ y ∈ small x, -1048576 < y ∧ y < 1048576 := by
  intro y hy
  obtain ⟨v, _, rfl⟩ := List.mem_map.1 hy
  exact tmod_b v
theorem dot_plain {w y : List Int} (hw : All8 w) (hy : ∀ v ∈ y, -1048576 < v ∧ v < 1048576) (hl : w.length ≤ 100) : dotI w y = rdivI (psum w y) 6 ∧ -13421772800 ≤ psum w y ∧ psum w y ≤ 13421772800 := by
  obtain ⟨h1, h2, h3⟩ := dotA_exact 134217728 (by omega) w y 0 (fun a ha b hb => by
    have h1 := hw a ha
    have h2 := hy b hb
    rw [clampI_id (x := a) (by omega) (by omega), clampI_id (x := b) (by omega) (by omega)]
    have := prod_range (x := a) (y := b) (A := 128) (B := 1048576) (by omega) (by omega) (by omega) (by omega)
    omega) (by omega) (by omega)
  have hb : -13421772800 ≤ psum w y ∧ psum w y ≤ 13421772800 := by omega
  refine ⟨?_, hb⟩
  unfold dotI
  rw [h1, Int.zero_add]
  have h4 := rdivI_near (psum w y) 5
  have e6 : (2 : Int) ^ (5 + 1) = 64 := rfl
  have e5 : (2 : Int) ^ 5 = 32 := rfl
  rw [e6, e5] at h4
  exact clampI_id (by show -2147483648 ≤ rdivI (psum w y) (5 + 1); omega) (by show rdivI (psum w y) (5 + 1) ≤ 2147483647; omega)
theorem law_l0 {w x : List Int} {at_ : Int} (hw : All8 w) (hl : w.length = x.length) (hb : x.length ≤ 100) (d : Nat) : ∀ (k : Nat) (i : Int), 0 ≤ i → (x.length : Int) - i = d → d + x.length + 5 < k →
    aviarylaw04_VecSplit.l0 k w x at_ ((small x).take i.toNat) i = some true := by
  have hS : (small x).length = x.length := by simp [small]
  have hsb := small_b x
  induction d with
  | zero =>
    intro k i h0 hd hk
    obtain ⟨k, rfl⟩ : ∃ m, k = m + 1 := ⟨k - 1, by omega⟩
    have eu : IntKind.u64.wrap (wrap64 ((x.length : Int) + 1)) = (x.length : Int) + 1 := by rw [wrap64_id (by omega) (by omega), wrapu64]; omega
    have hi : 0 ≤ wrap64 (Int.tmod (IntKind.u64.wrap at_) ((x.length : Int) + 1)) ∧ wrap64 (Int.tmod (IntKind.u64.wrap at_) ((x.length : Int) + 1)) ≤ (x.length : Int) := by
      have h0 : 0 ≤ IntKind.u64.wrap at_ := by rw [wrapu64]; omega
      rw [Int.tmod_eq_emod_of_nonneg h0]
      have h1 := Int.emod_nonneg (IntKind.u64.wrap at_) (show (x.length : Int) + 1 ≠ 0 by omega)
      have h2 := Int.emod_lt_of_pos (IntKind.u64.wrap at_) (show 0 < (x.length : Int) + 1 by omega)
      rw [wrap64_id (by omega) (by omega)]
      omega
    simp only [aviarylaw04_VecSplit.l0]
    rw [if_neg (by omega), eu, take_len (by omega), if_neg (by omega)]
    generalize wrap64 (Int.tmod (IntKind.u64.wrap at_) ((x.length : Int) + 1)) = p at *
    generalize small x = y at *
    have hY : All64 y := fun v hv => by have := hsb v hv; omega
    obtain ⟨j, rfl⟩ := Int.eq_ofNat_of_zero_le hi.1
    have l1 : (w.take j).length = j := by rw [List.length_take]; omega
    have l2 : (y.take j).length = j := by rw [List.length_take]; omega
    have l3 : (w.drop j).length = (y.drop j).length := by rw [List.length_drop, List.length_drop]; omega
    have hw1 : All8 (w.take j) := fun v hv => hw v (List.mem_of_mem_take hv)
    have hw2 : All8 (w.drop j) := fun v hv => hw v (List.mem_of_mem_drop hv)
    have hy1 : ∀ v ∈ y.take j, -1048576 < v ∧ v < 1048576 := fun v hv => hsb v (List.mem_of_mem_take hv)
    have hy2 : ∀ v ∈ y.drop j, -1048576 < v ∧ v < 1048576 := fun v hv => hsb v (List.mem_of_mem_drop hv)
    rw [Dot_eq hw hY (by omega) (by omega), if_pos (by omega)]
    simp only [Option.bind_some]
    rw [if_pos (by omega), if_pos (by omega), if_pos (by omega), Int.toNat_natCast, Dot_eq hw1 (fun v hv => by have := hy1 v hv; omega) (by omega) (by omega), if_pos (by omega)]
    simp only [Option.bind_some]
    rw [Dot_eq hw2 (fun v hv => by have := hy2 v hv; omega) (by rw [List.length_drop]; omega) (by rw [List.length_drop]; omega), if_pos l3]
    simp only [Option.bind_some, if_true]
    obtain ⟨a1, a2, a3⟩ := dot_plain hw hsb (by omega)
    obtain ⟨b1, b2, b3⟩ := dot_plain hw1 hy1 (by omega)
    obtain ⟨c1, c2, c3⟩ := dot_plain hw2 hy2 (by rw [List.length_drop]; omega)
    have hsum : psum w y = psum (w.take j) (y.take j) + psum (w.drop j) (y.drop j) := by
      have := psum_append (w.take j) (w.drop j) (y.take j) (y.drop j) (by omega)
      rw [List.take_append_drop, List.take_append_drop] at this
      exact this
    rw [a1, b1, c1]
    have n1 := rdivI_near (psum w y) 5
    have n2 := rdivI_near (psum (w.take j) (y.take j)) 5
    have n3 := rdivI_near (psum (w.drop j) (y.drop j)) 5
    have e6 : (2 : Int) ^ (5 + 1) = 64 := rfl
    have e5 : (2 : Int) ^ 5 = 32 := rfl
    rw [e6, e5] at n1 n2 n3
    rw [hsum] at *
    generalize psum (w.take j) (y.take j) = p1 at *
    generalize psum (w.drop j) (y.drop j) = p2 at *
    have f1 : rdivI (p1 + p2) (5 + 1) = rdivI (p1 + p2) 6 := rfl
    have f2 : rdivI p1 (5 + 1) = rdivI p1 6 := rfl
    have f3 : rdivI p2 (5 + 1) = rdivI p2 6 := rfl
    rw [f1] at n1
    rw [f2] at n2
    rw [f3] at n3
    generalize rdivI (p1 + p2) 6 = r at *
    generalize rdivI p1 6 = r1 at *
    generalize rdivI p2 6 = r2 at *
    rw [wrap64_id (x := r - r1) (by omega) (by omega), wrap64_id (by omega) (by omega), if_pos (by omega)]
    simp
    omega
  | succ d ih =>
    intro k i h0 hd hk
    obtain ⟨k, rfl⟩ : ∃ m, k = m + 1 := ⟨k - 1, by omega⟩
    have e1 : Int.tmod (rd x i) 1048576 = rd (small x) i := by unfold small; rw [rd_map h0 (by omega)]
    simp only [aviarylaw04_VecSplit.l0]
    rw [if_pos (by omega), if_pos h0, if_pos (by rw [List.length_take]; omega), e1, take_rd h0 (by omega), wrap64_id (x := i + 1) (by omega) (by omega)]
    exact ih k (i + 1) (by omega) (by omega) (by omega)
theorem VecSplit : aviarylaw04_VecSplit.Pure := by
  intro w x at_ hw0 hw1 hw hx0 hx1 hx ha
  have hW := all8 hw
  refine ⟨x.length + x.length + 200, ?_⟩
  obtain ⟨k, hk⟩ : ∃ k, x.length + x.length + 200 = k + 1 := ⟨x.length + x.length + 199, rfl⟩
  unfold aviarylaw04_VecSplit.f
  rw [works_eq (by omega), Option.bind_some, if_pos rfl, hk]
  have yes : aviarylaw04_VecSplit.j0 (k + 1) w x at_ true = some true := by simp [aviarylaw04_VecSplit.j0]
  by_cases c0 : w.length = x.length
  · rw [if_pos (by omega)]
    by_cases c1 : x.length > 100
    · rw [show decide ((x.length : Int) > 100) = true by simp; omega]; exact yes
    · rw [show decide ((x.length : Int) > 100) = false by simp; omega]
      simp only [aviarylaw04_VecSplit.j0]
      rw [if_neg (by decide)]
      exact law_l0 hW c0 (by omega) x.length k 0 (by omega) (by omega) (by omega)
  · rw [if_neg (by omega)]; exact yes

end Go.Proofs.Ytbegoilegjinbaa.Pure
