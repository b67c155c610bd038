/- Apply of the program equals that of the reference: for any pair of matrices of at most 2^44 weights, any rank and shift and any row of numbers. -/
import Derived.Test.YtekaiebfgcjddaaPGraftAppliesx3
import Derived.Test.YtekaiebfgcjddaaMSat
import Derived.Test.YtekaiebfgcjddaaMCurve
import Derived.Test.YtekaiebfgcjddaaMVec
import Derived.Test.YtekaiebfgcjddaaMNorm
import Derived.Test.YtekaiebfgcjddaaMGraft
set_option linter.unusedVariables false
set_option linter.unusedSimpArgs false
namespace Go.Proofs.Ytekaiebfgcjddaa.Pure
open Go Go.RowKit Go.Proofs.Ytekaiebfgcjddaa.PGraftApplies Go.Proofs.YtekaiebfgcjddaaW.PrintWords Go.Proofs.YtekaiebfgcjddaaW.PrintLast Go.Proofs.Ytekaiebfgcjddaa.Mth
theorem Clamp_eq (x : Int) : sat_Clamp.f x = some (clampI x) := by unfold sat_Clamp.f; rw [clamp_f1]
theorem rClamp_eq (x : Int) : aviaryref01_Clamp.f x = some (clampI x) := by unfold aviaryref01_Clamp.f; rw [clamp_f2]
theorem Add_eq {a b : Int} (ha : -9223372036854775808 ≤ a ∧ a ≤ 9223372036854775807) (hb : -9223372036854775808 ≤ b ∧ b ≤ 9223372036854775807) : sat_Add.f a b = some (saddI a b) := by
  unfold sat_Add.f
  have h := sadd_sign ha.1 ha.2 hb.1 hb.2
  by_cases c : (Go.bits .and .i64 (Go.bits .xor .i64 a (wrap64 (a + b))) (Go.bits .xor .i64 b (wrap64 (a + b)))) ≥ 0
  · rw [if_pos c]
    have h2 := h.1 c
    clear h c
    unfold wrap64 at *
    unfold saddI
    congr 1
    (repeat' split) <;> omega
  · rw [if_neg c]
    have h2 : ¬ ¬ _ := fun z => c (h.2 z)
    have h3 := Classical.not_not.1 h2
    clear h c h2
    unfold wrap64 at *
    unfold saddI
    (repeat' split) <;> first | rfl | omega
theorem rAdd_eq {k : Nat} (hk : 0 < k) {a b : Int} (ha : -9223372036854775808 ≤ a ∧ a ≤ 9223372036854775807) (hb : -9223372036854775808 ≤ b ∧ b ≤ 9223372036854775807) : aviaryref01_Add.f k a b = some (saddI a b) := by
  obtain ⟨k, rfl⟩ : ∃ m, k = m + 1 := ⟨k - 1, by omega⟩
  unfold aviaryref01_Add.f
  by_cases c : b > 0
  · rw [if_pos c, wrap64_id (x := 9223372036854775807 - b) (by omega) (by omega)]
    simp only [aviaryref01_Add.j0]
    by_cases d : a > 9223372036854775807 - b
    · rw [if_pos (by simpa using d)]
      unfold saddI; rw [if_pos (by omega)]
    · rw [if_neg (by simpa using d), if_neg (by omega), wrap64_id (by omega) (by omega)]
      unfold saddI; rw [if_neg (by omega), if_neg (by omega)]
  · rw [if_neg c]
    simp only [aviaryref01_Add.j0]
    rw [if_neg (by decide)]
    by_cases d : b < 0
    · rw [if_pos d, wrap64_id (x := -9223372036854775808 - b) (by omega) (by omega)]
      by_cases e : a < -9223372036854775808 - b
      · rw [if_pos e]; unfold saddI; rw [if_neg (by omega), if_pos (by omega)]
      · rw [if_neg e, wrap64_id (by omega) (by omega)]; unfold saddI; rw [if_neg (by omega), if_neg (by omega)]
    · rw [if_neg d, wrap64_id (by omega) (by omega)]; unfold saddI; rw [if_neg (by omega), if_neg (by omega)]
theorem Shift_eq {x : Int} (hx : -9223372036854775808 ≤ x ∧ x ≤ 9223372036854775807) (n : Int) : sat_Shift.f x n = some (shiftI x n) := by
  unfold sat_Shift.f shiftI
  have hm : mx (mn n 62) 0 = (nclampI n : Int) := by unfold mx mn nclampI; (repeat' split) <;> omega
  have hm2 : nclampI n ≤ 62 := by unfold nclampI; split <;> omega
  rw [hm]
  generalize nclampI n = m at *
  cases m with
  | zero => rfl
  | succ m =>
    rw [if_neg (by omega), if_pos (by omega)]
    have e1 : ((m + 1 : Nat) : Int).toNat = m + 1 := by omega
    have e2 : (((m + 1 : Nat) : Int) - 1).toNat = m := by omega
    rw [e1, e2]
    have hp := pow2_pos m
    have hP := pow2_succ m
    have hl := pow2_le62 hm2
    rw [wrap64_id (x := 2 ^ (m + 1)) (by omega) (by omega), wrap64_id (x := 2 ^ (m + 1) - 1) (by omega) (by omega), wrap64_id (x := 2 ^ m) (by omega) (by omega), bits_mask64 x (m + 1) hm2]
    have hr := Int.emod_nonneg x (show (2 : Int) ^ (m + 1) ≠ 0 by omega)
    have hr2 := Int.emod_lt_of_pos x (pow2_pos (m + 1))
    have hq := Int.mul_ediv_add_emod x (2 ^ (m + 1))
    have hqb : -9223372036854775808 ≤ x / 2 ^ (m + 1) + 1 ∧ x / 2 ^ (m + 1) + 1 ≤ 9223372036854775807 := by
      have h1 : x / 2 ^ (m + 1) ≤ 4611686018427387904 := by
        have := Int.ediv_le_ediv (c := 2 ^ (m + 1)) (by omega) hx.2
        have h3 : 9223372036854775807 / (2 : Int) ^ (m + 1) ≤ 4611686018427387904 := by
          have := Int.ediv_lt_of_lt_mul (a := 9223372036854775807) (b := 4611686018427387905) (c := 2 ^ (m + 1)) (by omega) (by omega)
          omega
        omega
      have h2 : -9223372036854775808 ≤ x / 2 ^ (m + 1) := by
        refine Int.le_ediv_of_mul_le (by omega) ?_
        omega
      omega
    rw [wrap64_id hqb.1 hqb.2]
    have key := rdivI_floor x m
    by_cases c : x % 2 ^ (m + 1) > 2 ^ m
    · rw [if_pos c, key, if_pos (Or.inl c)]
    · rw [if_neg c]
      by_cases d : x % 2 ^ (m + 1) = 2 ^ m
      · rw [if_pos d]
        by_cases e : x > 0
        · rw [if_pos e, key, if_pos (Or.inr ⟨d, e⟩)]
        · rw [if_neg e, key, if_neg (by omega)]
      · rw [if_neg d, key, if_neg (by omega)]
theorem rShift_eq {k : Nat} (hk : 0 < k) {x : Int} (hx : -9223372036854775808 ≤ x ∧ x ≤ 9223372036854775807) (n : Int) : aviaryref01_Shift.f k x n = some (shiftI x n) := by
  obtain ⟨k, rfl⟩ : ∃ m, k = m + 1 := ⟨k - 1, by omega⟩
  unfold aviaryref01_Shift.f shiftI
  have hm : mn 62 (mx 0 n) = (nclampI n : Int) := by unfold mx mn nclampI; (repeat' split) <;> omega
  have hm2 : nclampI n ≤ 62 := by unfold nclampI; split <;> omega
  rw [hm]
  generalize nclampI n = m at *
  cases m with
  | zero => rfl
  | succ m =>
    have hp := pow2_pos m
    have hP := pow2_succ m
    have hl := pow2_le62 hm2
    have e1 : wrap64 (((m + 1 : Nat) : Int) - 1) = (m : Int) := by unfold wrap64; omega
    have e2 : ∀ y : Int, shr .u64 y ((m + 1 : Nat) : Int) = y / 2 ^ (m + 1) := fun y => by unfold shr; rw [show min (((m + 1 : Nat) : Int).toNat) IntKind.u64.bits = m + 1 by simp [IntKind.bits]; omega]
    have e3 : ∀ y : Int, shr .u64 y (m : Int) = y / 2 ^ m := fun y => by unfold shr; rw [show min ((m : Int).toNat) IntKind.u64.bits = m by simp [IntKind.bits]; omega]
    have key : ∀ y : Int, 0 ≤ y → y ≤ 9223372036854775808 → 0 ≤ y / 2 ^ (m + 1) ∧ y / 2 ^ (m + 1) ≤ 4611686018427387904 := by
      intro y h0 h1
      refine ⟨Int.ediv_nonneg h0 (by omega), ?_⟩
      have := Int.ediv_lt_of_lt_mul (a := y) (b := 4611686018427387905) (c := 2 ^ (m + 1)) (by omega) (by omega)
      omega
    rw [if_neg (by omega)]
    by_cases c : x < 0
    · have e4 : IntKind.u64.wrap (IntKind.u64.wrap (wrap64 (-wrap64 (x + 1))) + 1) = -x := by rw [wrapu64, wrapu64]; unfold wrap64; omega
      rw [if_pos c, e4]
      simp only [aviaryref01_Shift.j0]
      rw [if_pos (by omega), e1, if_pos (by omega), e2, e3, if_pos c, if_pos c, wrapu64]
      have hk := key (-x) (by omega) (by omega)
      have hr := rdivI_half (-x) m (by omega)
      have hh := Int.tmod_eq_emod_of_nonneg (a := -x / 2 ^ m) (b := 2) (Int.ediv_nonneg (by omega) (by omega))
      rw [hh]
      have hx2 : rdivI x (m + 1) = - rdivI (-x) (m + 1) := by rw [rdivI_neg]; omega
      rw [hx2, hr]
      by_cases d : -x / 2 ^ m % 2 = 1
      · rw [if_pos d, if_pos d]; congr 1; unfold wrap64; omega
      · rw [if_neg d, if_neg d]; congr 1; unfold wrap64; omega
    · have e4 : IntKind.u64.wrap x = x := by rw [wrapu64]; omega
      rw [if_neg c, e4]
      simp only [aviaryref01_Shift.j0]
      rw [if_pos (by omega), e1, if_pos (by omega), e2, e3, if_neg c, if_neg c, wrapu64]
      have hk := key x (by omega) (by omega)
      have hr := rdivI_half x m (by omega)
      have hh := Int.tmod_eq_emod_of_nonneg (a := x / 2 ^ m) (b := 2) (Int.ediv_nonneg (by omega) (by omega))
      rw [hh, hr]
      by_cases d : x / 2 ^ m % 2 = 1
      · rw [if_pos d, if_pos d]; congr 1; unfold wrap64; omega
      · rw [if_neg d, if_neg d]; congr 1; unfold wrap64; omega
theorem sum8_l0 {w x : List Int} (hw : All8 w) (hx : All64 x) (hl : w.length = x.length) (hb : w.length ≤ 4611686018427387904) (d : Nat) : ∀ (k : Nat) (s i : Int), 0 ≤ i → (w.length : Int) - i = d → d < k → -9223372036854775808 ≤ s → s ≤ 9223372036854775807 →
    vec_sum_int8.l0 k x s w (w.length : Int) i = some (dotA s (w.drop i.toNat) (x.drop i.toNat)) := by
  induction d with
  | zero =>
    intro k s i h0 hd hk hs0 hs1
    obtain ⟨k, rfl⟩ : ∃ m, k = m + 1 := ⟨k - 1, by omega⟩
    simp only [vec_sum_int8.l0]
    rw [if_neg (by omega), drop_len (by omega)]
    rfl
  | succ d ih =>
    intro k s i h0 hd hk hs0 hs1
    obtain ⟨k, rfl⟩ : ∃ m, k = m + 1 := ⟨k - 1, by omega⟩
    have hp := clamp_prod (rd w i) (rd x i)
    have hr := rd8 hw i
    simp only [vec_sum_int8.l0]
    rw [if_pos (by omega), if_pos h0, if_pos (by omega), wrap64_id (x := rd w i) (by omega) (by omega), Clamp_eq]; simp only [Option.bind_some]
    rw [if_pos (by omega), Clamp_eq]; simp only [Option.bind_some]
    rw [wrap64_id (x := clampI (rd w i) * clampI (rd x i)) (by omega) (by omega), Add_eq ⟨hs0, hs1⟩ ⟨by omega, by omega⟩]; simp only [Option.bind_some]
    rw [wrap64_id (x := i + 1) (by omega) (by omega), ih k _ (i + 1) (by omega) (by omega) (by omega) (saddI_range _ _).1 (saddI_range _ _).2, drop_rd (l := w) h0 (by omega), drop_rd (l := x) h0 (by omega)]
    rfl
theorem sum8_eq {k : Nat} {w x : List Int} (hw : All8 w) (hx : All64 x) (hl : w.length = x.length) (hb : w.length ≤ 4611686018427387904) (hk : w.length < k) : vec_sum_int8.f k w x = some (dotA 0 w x) := by
  unfold vec_sum_int8.f
  rw [sum8_l0 hw hx hl hb w.length k 0 0 (by omega) (by omega) hk (by omega) (by omega)]
  rfl
theorem Dot_eq {k : Nat} {w x : List Int} (hw : All8 w) (hx : All64 x) (hb : w.length ≤ 4611686018427387904) (hk : w.length < k) : vec_Dot.f k w x = some (if w.length = x.length then (dotI w x, 0) else (0, 21)) := by
  unfold vec_Dot.f
  by_cases c : w.length = x.length
  · have hr := dotA_range 0 w x (by omega) (by omega)
    rw [if_pos (by omega), if_pos c, sum8_eq hw hx c hb hk]; simp only [Option.bind_some]
    rw [Shift_eq hr]; simp only [Option.bind_some]
    rw [Clamp_eq, shift_at nclamp6]; rfl
  · rw [if_neg (by omega), if_neg c]
theorem rDot_l0 {w x : List Int} (hw : All8 w) (hx : All64 x) (hl : w.length = x.length) (hb : w.length ≤ 4611686018427387904) (d : Nat) : ∀ (k : Nat) (s i : Int), 0 ≤ i → (w.length : Int) - i = d → d + 1 < k → -9223372036854775808 ≤ s → s ≤ 9223372036854775807 →
    aviaryref04_Dot.l0 k w x s i = some (clampI (rdivI (dotA s (w.drop i.toNat) (x.drop i.toNat)) 6), 0) := by
  induction d with
  | zero =>
    intro k s i h0 hd hk hs0 hs1
    obtain ⟨k, rfl⟩ : ∃ m, k = m + 1 := ⟨k - 1, by omega⟩
    simp only [aviaryref04_Dot.l0]
    rw [if_neg (by omega), drop_len (by omega), rShift_eq (by omega) ⟨hs0, hs1⟩]; simp only [Option.bind_some]
    rw [rClamp_eq, shift_at nclamp6]; rfl
  | succ d ih =>
    intro k s i h0 hd hk hs0 hs1
    obtain ⟨k, rfl⟩ : ∃ m, k = m + 1 := ⟨k - 1, by omega⟩
    have hp := clamp_prod (rd w i) (rd x i)
    have hr := rd8 hw i
    have ec : clampI (rd w i) = rd w i := clampI_id (by omega) (by omega)
    simp only [aviaryref04_Dot.l0]
    rw [if_pos (by omega), if_pos h0, if_pos (by omega), rClamp_eq]; simp only [Option.bind_some]
    rw [wrap64_id (x := rd w i) (by omega) (by omega), ← ec, wrap64_id (x := clampI (rd w i) * clampI (rd x i)) (by omega) (by omega), rAdd_eq (by omega) ⟨hs0, hs1⟩ ⟨by omega, by omega⟩]; simp only [Option.bind_some]
    rw [wrap64_id (x := i + 1) (by omega) (by omega), ih k _ (i + 1) (by omega) (by omega) (by omega) (saddI_range _ _).1 (saddI_range _ _).2, drop_rd (l := w) h0 (by omega), drop_rd (l := x) h0 (by omega)]
    rfl
theorem rDot_eq {k : Nat} {w x : List Int} (hw : All8 w) (hx : All64 x) (hb : w.length ≤ 4611686018427387904) (hk : w.length + 1 < k) : aviaryref04_Dot.f k w x = some (if w.length = x.length then (dotI w x, 0) else (0, 21)) := by
  unfold aviaryref04_Dot.f
  by_cases c : w.length = x.length
  · rw [if_pos (by omega), if_pos c, rDot_l0 hw hx c hb w.length k 0 0 (by omega) (by omega) hk (by omega) (by omega)]
    rfl
  · rw [if_neg (by omega), if_neg c]
theorem Same_l0 {a b : List Int} (hl : a.length = b.length) (hb : a.length ≤ 4611686018427387904) (d : Nat) : ∀ (k : Nat) (i : Int), 0 ≤ i → (a.length : Int) - i = d → d < k →
    aviaryref04_Same.l0 k a b i = some (decide (a.drop i.toNat = b.drop i.toNat)) := by
  induction d with
  | zero =>
    intro k i h0 hd hk
    obtain ⟨k, rfl⟩ : ∃ m, k = m + 1 := ⟨k - 1, by omega⟩
    simp only [aviaryref04_Same.l0]
    rw [if_neg (by omega), drop_len (by omega), drop_len (by omega)]
    simp
  | succ d ih =>
    intro k i h0 hd hk
    obtain ⟨k, rfl⟩ : ∃ m, k = m + 1 := ⟨k - 1, by omega⟩
    simp only [aviaryref04_Same.l0]
    rw [if_pos (by omega), if_pos h0, if_pos (by omega), drop_rd (l := a) h0 (by omega), drop_rd (l := b) h0 (by omega)]
    by_cases c : rd a i = rd b i
    · rw [if_pos c, wrap64_id (x := i + 1) (by omega) (by omega), ih k (i + 1) (by omega) (by omega) (by omega), c]
      simp
    · rw [if_neg c]
      simp [c]
theorem Same_eq {k : Nat} {a b : List Int} (hb : a.length ≤ 4611686018427387904) (hk : a.length < k) : aviaryref04_Same.f k a b = some (decide (a = b)) := by
  unfold aviaryref04_Same.f
  by_cases c : a.length = b.length
  · rw [if_pos (by omega), Same_l0 c hb a.length k 0 (by omega) (by omega) hk]
    rfl
  · rw [if_neg (by omega)]
    have : a ≠ b := fun h => c (by rw [h])
    simp [this]
theorem Same_refl {k : Nat} {a : List Int} (hb : a.length ≤ 4611686018427387904) (hk : a.length < k) : aviaryref04_Same.f k a a = some true := by rw [Same_eq hb hk]; simp
theorem Mat_l0 {x : List Int} (hx : All64 x) (hn : 0 < x.length) (hxl : x.length ≤ 4611686018427387904) (r : Nat) : ∀ (k : Nat) (w acc : List Int), All8 w → w.length = r * x.length → acc.length + r ≤ 17592186044416 → r + x.length + 1 < k →
    vec_Mat.l0 k w x (x.length : Int) acc = some (acc ++ mat1 x.length x r w, 0) := by
  induction r with
  | zero =>
    intro k w acc hw hl ha hk
    obtain ⟨k, rfl⟩ : ∃ m, k = m + 1 := ⟨k - 1, by omega⟩
    simp only [vec_Mat.l0]
    rw [if_neg (by omega)]
    simp [mat1]
  | succ r ih =>
    intro k w acc hw hl ha hk
    obtain ⟨k, rfl⟩ : ∃ m, k = m + 1 := ⟨k - 1, by omega⟩
    have hl' : w.length = r * x.length + x.length := by rw [hl, Nat.succ_mul]
    have hnn : ((x.length : Int)).toNat = x.length := by omega
    have ht : (w.take x.length).length = x.length := by rw [List.length_take]; omega
    simp only [vec_Mat.l0]
    rw [if_pos (by omega), if_pos (by omega), if_pos (by omega), hnn, Dot_eq (fun y hy => hw y (List.mem_of_mem_take hy)) hx (by omega) (by omega), if_pos ht]
    simp only [Option.bind_some]
    rw [if_pos (by omega), ih k _ _ (fun y hy => hw y (List.mem_of_mem_drop hy)) (by rw [List.length_drop]; omega) (by rw [List.length_append]; simp; omega) (by omega)]
    simp [mat1]
theorem Mat_eq {k : Nat} {w x : List Int} {rows : Int} (hw : All8 w) (hx : All64 x) (hb : w.length ≤ 17592186044416) (hxl : x.length ≤ 4611686018427387904) (hk : w.length + x.length + 2 < k) :
    vec_Mat.f k w rows x = some (if x.length = 0 ∨ rows < 0 ∨ w.length % x.length ≠ 0 ∨ ((w.length / x.length : Nat) : Int) ≠ rows then ([], 21) else (mat1 x.length x (w.length / x.length) w, 0)) := by
  obtain ⟨k, rfl⟩ : ∃ m, k = m + 1 := ⟨k - 1, by omega⟩
  have bad : vec_Mat.j0 (k + 1) w x (x.length : Int) true = some ([], 21) := by simp [vec_Mat.j0]
  unfold vec_Mat.f
  by_cases c1 : x.length = 0
  · rw [if_pos (by omega), bad, if_pos (Or.inl c1)]
  · rw [if_neg (by omega)]
    by_cases c2 : rows < 0
    · rw [if_pos c2, bad, if_pos (Or.inr (Or.inl c2))]
    · rw [if_neg c2]
      by_cases c3 : w.length % x.length = 0
      · have e : (w.length : Int) / (x.length : Int) = ((w.length / x.length : Nat) : Int) := by rw [Int.natCast_ediv]
        have hq : w.length / x.length ≤ w.length := Nat.div_le_self _ _
        have hm : w.length = w.length / x.length * x.length := by have := Nat.div_add_mod w.length x.length; rw [Nat.mul_comm]; omega
        have hz : ((w.length : Int) % (x.length : Int)) = 0 := by rw [← Int.natCast_emod]; omega
        rw [if_pos hz, e]
        clear e hz
        generalize w.length / x.length = q at *
        rw [wrap64_id (by omega) (by omega)]
        by_cases c4 : (q : Int) = rows
        · rw [if_neg (by simp [c1, c2, c3, c4])]
          simp only [vec_Mat.j0]
          rw [if_neg (by simp [c4]), Mat_l0 hx (by omega) hxl q k w [] hw hm (by simp; omega) (by omega)]
          rfl
        · rw [if_pos (Or.inr (Or.inr (Or.inr c4))), show ((q : Int) != rows) = true by simp [c4], bad]
      · rw [if_neg (by rw [← Int.natCast_emod]; omega), bad, if_pos (Or.inr (Or.inr (Or.inl c3)))]
theorem rMat_l0 {w x : List Int} (hw : All8 w) (hx : All64 x) (hn : 0 < x.length) (r : Nat) (hl : w.length = r * x.length) (hr : r ≤ 17592186044416) (hb : w.length ≤ 4611686018427387904) (hxl : x.length ≤ 4611686018427387904) (d : Nat) : ∀ (k j : Nat), j + d = r → d + x.length + 2 < k →
    aviaryref04_Mat.l0 k w (r : Int) x ((mat1 x.length x r w).take j) (j : Int) = some (mat1 x.length x r w, 0) := by
  have hL := mat1_len x.length x r w
  induction d with
  | zero =>
    intro k j hd hk
    obtain ⟨k, rfl⟩ : ∃ m, k = m + 1 := ⟨k - 1, by omega⟩
    simp only [aviaryref04_Mat.l0]
    rw [if_neg (by omega), List.take_of_length_le (by omega)]
  | succ d ih =>
    intro k j hd hk
    obtain ⟨k, rfl⟩ : ∃ m, k = m + 1 := ⟨k - 1, by omega⟩
    have h1 : (j + 1) * x.length ≤ r * x.length := Nat.mul_le_mul_right _ (by omega)
    have h2 : (j + 1) * x.length = j * x.length + x.length := Nat.succ_mul _ _
    have ed : (w.take ((j + 1) * x.length)).drop (j * x.length) = (w.drop (j * x.length)).take x.length := by rw [List.drop_take, show (j + 1) * x.length - j * x.length = x.length by omega]
    have ht : ((w.drop (j * x.length)).take x.length).length = x.length := by rw [List.length_take, List.length_drop]; omega
    have b0 : j < 9223372036854775807 := by omega
    have b1 : j * x.length ≤ 9223372036854775807 := by omega
    have b2 : (j + 1) * x.length ≤ 9223372036854775807 := by omega
    simp only [aviaryref04_Mat.l0]
    rw [if_pos (by omega), wrapN_mul b1, wrapN_succ b0, wrapN_mul b2, if_pos (by omega), if_pos (by omega), if_pos (by omega), Int.toNat_natCast, Int.toNat_natCast, ed,
      rDot_eq (fun y hy => hw y (List.mem_of_mem_drop (List.mem_of_mem_take hy))) hx (by omega) (by omega), if_pos ht]
    simp only [Option.bind_some]
    have em := mat1_rd x.length x r w j (by omega)
    have et := take_rd (l := mat1 x.length x r w) (i := (j : Int)) (by omega) (by omega)
    rw [Int.toNat_natCast, show ((j : Int) + 1).toNat = j + 1 by omega] at et
    rw [if_pos (by rw [List.length_take]; omega), ← em, et]
    exact ih k (j + 1) (by omega) (by omega)
theorem rMat_eq {k : Nat} {w x : List Int} {rows : Int} (hw : All8 w) (hx : All64 x) (hb : w.length ≤ 17592186044416) (hxl : x.length ≤ 4611686018427387904) (hk : w.length + x.length + 4 < k) :
    aviaryref04_Mat.f k w rows x = some (if x.length = 0 ∨ rows < 0 ∨ w.length % x.length ≠ 0 ∨ ((w.length / x.length : Nat) : Int) ≠ rows then ([], 21) else (mat1 x.length x (w.length / x.length) w, 0)) := by
  obtain ⟨k, rfl⟩ : ∃ m, k = m + 1 := ⟨k - 1, by omega⟩
  have bad : aviaryref04_Mat.j0 (k + 1) w rows x true = some ([], 21) := by simp [aviaryref04_Mat.j0]
  unfold aviaryref04_Mat.f
  by_cases c2 : rows < 0
  · rw [if_pos c2, bad, if_pos (Or.inr (Or.inl c2))]
  · rw [if_neg c2]
    by_cases c1 : x.length = 0
    · rw [if_pos (by omega), bad, if_pos (Or.inl c1)]
    · rw [if_neg (by omega)]
      by_cases c3 : w.length % x.length = 0
      · have e : (w.length : Int) / (x.length : Int) = ((w.length / x.length : Nat) : Int) := by rw [Int.natCast_ediv]
        have hq : w.length / x.length ≤ w.length := Nat.div_le_self _ _
        have hm : w.length = w.length / x.length * x.length := by have := Nat.div_add_mod w.length x.length; rw [Nat.mul_comm]; omega
        have hz : ((w.length : Int) % (x.length : Int)) = 0 := by rw [← Int.natCast_emod]; omega
        rw [if_pos hz, e]
        clear e hz
        generalize w.length / x.length = q at *
        rw [wrap64_id (by omega) (by omega)]
        by_cases c4 : (q : Int) = rows
        · subst c4
          rw [if_neg (by simp [c1, c3])]
          simp only [aviaryref04_Mat.j0]
          rw [if_neg (by simp)]
          exact rMat_l0 hw hx (by omega) q hm (by omega) (by omega) hxl q k 0 (by omega) (by omega)
        · rw [if_pos (Or.inr (Or.inr (Or.inr c4))), show ((q : Int) != rows) = true by simp [c4], bad]
      · rw [if_neg (by rw [← Int.natCast_emod]; omega), bad, if_pos (Or.inr (Or.inr (Or.inl c3)))]
theorem Apply_l0 {M : List Int} (s : Int) (hM : All64 M) (hb : M.length ≤ 4611686018427387904) (d : Nat) : ∀ (k : Nat) (i : Int), 0 ≤ i → (M.length : Int) - i = d → d < k →
    graft_Apply.l0 k s (overI (M.map fun v => shiftI v s) M i) (M.length : Int) i = some (M.map (fun v => shiftI v s), 0) := by
  have hL : (M.map fun v => shiftI v s).length = M.length := by simp
  induction d with
  | zero =>
    intro k i h0 hd hk
    obtain ⟨k, rfl⟩ : ∃ m, k = m + 1 := ⟨k - 1, by omega⟩
    simp only [graft_Apply.l0]
    rw [if_neg (by omega), overI_end hL (by omega)]
  | succ d ih =>
    intro k i h0 hd hk
    obtain ⟨k, rfl⟩ : ∃ m, k = m + 1 := ⟨k - 1, by omega⟩
    simp only [graft_Apply.l0]
    rw [if_pos (by omega), if_pos h0, if_pos (by rw [overI_len hL]; omega), overI_rd hL h0 (by omega), Shift_eq (rd64 hM i)]; simp only [Option.bind_some]
    have e : shiftI (rd M i) s = rd (M.map fun v => shiftI v s) i := by rw [rd_map h0 (by omega)]
    rw [e, overI_set hL h0 (by omega), wrap64_id (x := i + 1) (by omega) (by omega)]
    exact ih k (i + 1) (by omega) (by omega) (by omega)
theorem Apply_eq {k : Nat} {a b x : List Int} {rank shift : Int} (ha : All8 a) (hb : All8 b) (hx : All64 x) (hal : a.length ≤ 17592186044415) (hbl : b.length ≤ 17592186044415) (hxl : x.length ≤ 17592186044415) (hk : a.length + b.length + x.length + 10 < k) :
    graft_Apply.f k a b rank shift x = some (applyI a b rank shift x) := by
  have h1 := matR_len a rank x
  have h2 := matR_len b x.length (matR a rank x).1
  unfold graft_Apply.f applyI
  rw [show vec_Mat.f k a rank x = some (matR a rank x) from Mat_eq ha hx (by omega) (by omega) (by omega), Option.bind_some]
  by_cases c : (matR a rank x).2 = 0
  · rw [if_pos c, if_pos c, show vec_Mat.f k b (x.length : Int) (matR a rank x).1 = some (matR b x.length (matR a rank x).1) from Mat_eq hb (matR_all64 _ _ _) (by omega) (by omega) (by omega), Option.bind_some]
    by_cases c2 : (matR b x.length (matR a rank x).1).2 = 0
    · rw [if_pos c2, if_pos c2]
      have := Apply_l0 shift (matR_all64 b x.length (matR a rank x).1) (by omega) _ k 0 (by omega) (Int.sub_zero _) (by omega)
      rw [overI_zero] at this
      exact this
    · rw [if_neg c2, if_neg c2]
  · rw [if_neg c, if_neg c]
theorem rApply_l0 {M : List Int} (s : Int) (hM : All64 M) (hb : M.length ≤ 17592186044416) (d : Nat) : ∀ (k : Nat) (i : Int), 0 ≤ i → (M.length : Int) - i = d → d + 1 < k →
    aviaryref10_Apply.l0 k s M ((M.map fun v => shiftI v s).take i.toNat) i = some (M.map (fun v => shiftI v s), 0) := by
  have hL : (M.map fun v => shiftI v s).length = M.length := by simp
  induction d with
  | zero =>
    intro k i h0 hd hk
    obtain ⟨k, rfl⟩ : ∃ m, k = m + 1 := ⟨k - 1, by omega⟩
    simp only [aviaryref10_Apply.l0]
    rw [if_neg (by omega), take_len (by omega)]
  | succ d ih =>
    intro k i h0 hd hk
    obtain ⟨k, rfl⟩ : ∃ m, k = m + 1 := ⟨k - 1, by omega⟩
    simp only [aviaryref10_Apply.l0]
    rw [if_pos (by omega), if_pos h0, rShift_eq (by omega) (rd64 hM i)]; simp only [Option.bind_some]
    have e : shiftI (rd M i) s = rd (M.map fun v => shiftI v s) i := by rw [rd_map h0 (by omega)]
    rw [if_pos (by rw [List.length_take]; omega), e, take_rd h0 (by omega), wrap64_id (x := i + 1) (by omega) (by omega)]
    exact ih k (i + 1) (by omega) (by omega) (by omega)
theorem rApply_eq {k : Nat} {a b x : List Int} {rank shift : Int} (ha : All8 a) (hb : All8 b) (hx : All64 x) (hal : a.length ≤ 17592186044415) (hbl : b.length ≤ 17592186044415) (hxl : x.length ≤ 17592186044415) (hk : a.length + b.length + x.length + 10 < k) :
    aviaryref10_Apply.f k a b rank shift x = some (applyI a b rank shift x) := by
  have h1 := matR_len a rank x
  have h2 := matR_len b x.length (matR a rank x).1
  unfold aviaryref10_Apply.f applyI
  rw [show aviaryref04_Mat.f k a rank x = some (matR a rank x) from rMat_eq ha hx (by omega) (by omega) (by omega), Option.bind_some]
  by_cases c : (matR a rank x).2 = 0
  · rw [if_pos c, if_pos c, show aviaryref04_Mat.f k b (x.length : Int) (matR a rank x).1 = some (matR b x.length (matR a rank x).1) from rMat_eq hb (matR_all64 _ _ _) (by omega) (by omega) (by omega), Option.bind_some]
    by_cases c2 : (matR b x.length (matR a rank x).1).2 = 0
    · rw [if_pos c2, if_pos c2]
      exact rApply_l0 shift (matR_all64 b x.length (matR a rank x).1) (by omega) _ k 0 (by omega) (Int.sub_zero _) (by omega)
    · rw [if_neg c2, if_neg c2]
  · rw [if_neg c, if_neg c]

theorem applies {a b x : List Int} {rank shift : Int} (ha : All8 a) (hb : All8 b) (hx : All64 x) (hal : a.length ≤ 17592186044415) (hbl : b.length ≤ 17592186044415) (hxl : x.length ≤ 17592186044415) : ∃ k, aviarylaw10_GraftApplies.f k a b rank shift x = some true := by
  refine ⟨a.length + b.length + x.length + 200, ?_⟩
  have hL := applyI_len a b rank shift x
  unfold aviarylaw10_GraftApplies.f
  simp only [Option.bind_some, List.nil_append, List.length_nil, Nat.zero_add]
  rw [if_pos (by omega), if_pos (by omega), if_pos (by omega), Apply_eq ha hb hx hal hbl hxl (by omega), Option.bind_some, rApply_eq ha hb hx hal hbl hxl (by omega), Option.bind_some, Same_refl (by omega) (by omega)]
  simp
theorem GraftApplies : ∀ (l0 : List Int) (l1 : List Int) (a2 : Int) (a3 : Int) (l4 : List Int), l0.length ≤ maxLen → l0.length * 1 ≤ 140737488351232 → (∀ x ∈ l0, (Lit.int .i8 x).wf = true) → l1.length ≤ maxLen → l1.length * 1 ≤ 140737488351232 → (∀ x ∈ l1, (Lit.int .i8 x).wf = true) → (Lit.int .i64 a2).wf = true → (Lit.int .i64 a3).wf = true → l4.length ≤ maxLen → l4.length * 8 ≤ 140737488351232 → (∀ x ∈ l4, (Lit.int .i64 x).wf = true) →
    l0.length ≤ 1048576 → l1.length ≤ 1048576 → l4.length ≤ 1048576 → ∃ k, aviarylaw10_GraftApplies.f k l0 l1 a2 a3 l4 = some true := by
  intro a b rank shift x _ _ ha _ _ hb _ _ _ _ hx b0 b1 b4
  exact applies (all8 ha) (all8 hb) (all64 hx) (by omega) (by omega) (by omega)

end Go.Proofs.Ytekaiebfgcjddaa.Pure
