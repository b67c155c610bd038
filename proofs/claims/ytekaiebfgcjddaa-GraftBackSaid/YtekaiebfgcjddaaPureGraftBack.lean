/- What Encode writes of an adapter that fits, Decode reads back to the same; what Flat gives, Shape shapes back; and of bytes that Decode takes, Encode gives the same bytes. No condition. -/
import Derived.Test.YtekaiebfgcjddaaPGraftBackx12
import Derived.Test.YtekaiebfgcjddaaMSat
import Derived.Test.YtekaiebfgcjddaaMCurve
import Derived.Test.YtekaiebfgcjddaaMVec
import Derived.Test.YtekaiebfgcjddaaMNorm
import Derived.Test.YtekaiebfgcjddaaMGraft
import Derived.Test.YtekaiebfgcjddaaMBytes
set_option linter.unusedVariables false
set_option linter.unusedSimpArgs false
namespace Go.Proofs.Ytekaiebfgcjddaa.Pure
open Go Go.RowKit Go.Proofs.Ytekaiebfgcjddaa.PGraftBack Go.Proofs.YtekaiebfgcjddaaW.PrintWords Go.Proofs.YtekaiebfgcjddaaW.PrintLast Go.Proofs.Ytekaiebfgcjddaa.Mth
theorem Clamp_eq (x : Int) : sat_Clamp.f x = some (clampI x) := by unfold sat_Clamp.f; rw [clamp_f1]
theorem Add_eq {a b : Int} (ha : -9223372036854775808 ≤ a ∧ a ≤ 9223372036854775807) (hb : -9223372036854775808 ≤ b ∧ b ≤ 9223372036854775807) : sat_Add.f a b = some (saddI a b) := by
  unfold sat_Add.f
  have h := sadd_sign ha.1 ha.2 hb.1 hb.2
  by_cases c : (Go.bits .and .i64 (Go.bits .xor .i64 a (wrap64 (a + b))) (Go.bits .xor .i64 b (wrap64 (a + b)))) ≥ 0
  · rw [if_pos c]
    have h2 := h.1 c
    clear h c
    unfold wrap64 at *
    unfold saddI
    congr 1
    (repeat' split) <;> omega
  · rw [if_neg c]
    have h2 : ¬ ¬ _ := fun z => c (h.2 z)
    have h3 := Classical.not_not.1 h2
    clear h c h2
    unfold wrap64 at *
    unfold saddI
    (repeat' split) <;> first | rfl | omega
theorem Shift_eq {x : Int} (hx : -9223372036854775808 ≤ x ∧ x ≤ 9223372036854775807) (n : Int) : sat_Shift.f x n = some (shiftI x n) := by
  unfold sat_Shift.f shiftI
  have hm : mx (mn n 62) 0 = (nclampI n : Int) := by unfold mx mn nclampI; (repeat' split) <;> omega
  have hm2 : nclampI n ≤ 62 := by unfold nclampI; split <;> omega
  rw [hm]
  generalize nclampI n = m at *
  cases m with
  | zero => rfl
  | succ m =>
    rw [if_neg (by omega), if_pos (by omega)]
    have e1 : ((m + 1 : Nat) : Int).toNat = m + 1 := by omega
    have e2 : (((m + 1 : Nat) : Int) - 1).toNat = m := by omega
    rw [e1, e2]
    have hp := pow2_pos m
    have hP := pow2_succ m
    have hl := pow2_le62 hm2
    rw [wrap64_id (x := 2 ^ (m + 1)) (by omega) (by omega), wrap64_id (x := 2 ^ (m + 1) - 1) (by omega) (by omega), wrap64_id (x := 2 ^ m) (by omega) (by omega), bits_mask64 x (m + 1) hm2]
    have hr := Int.emod_nonneg x (show (2 : Int) ^ (m + 1) ≠ 0 by omega)
    have hr2 := Int.emod_lt_of_pos x (pow2_pos (m + 1))
    have hq := Int.mul_ediv_add_emod x (2 ^ (m + 1))
    have hqb : -9223372036854775808 ≤ x / 2 ^ (m + 1) + 1 ∧ x / 2 ^ (m + 1) + 1 ≤ 9223372036854775807 := by
      have h1 : x / 2 ^ (m + 1) ≤ 4611686018427387904 := by
        have := Int.ediv_le_ediv (c := 2 ^ (m + 1)) (by omega) hx.2
        have h3 : 9223372036854775807 / (2 : Int) ^ (m + 1) ≤ 4611686018427387904 := by
          have := Int.ediv_lt_of_lt_mul (a := 9223372036854775807) (b := 4611686018427387905) (c := 2 ^ (m + 1)) (by omega) (by omega)
          omega
        omega
      have h2 : -9223372036854775808 ≤ x / 2 ^ (m + 1) := by
        refine Int.le_ediv_of_mul_le (by omega) ?_
        omega
      omega
    rw [wrap64_id hqb.1 hqb.2]
    have key := rdivI_floor x m
    by_cases c : x % 2 ^ (m + 1) > 2 ^ m
    · rw [if_pos c, key, if_pos (Or.inl c)]
    · rw [if_neg c]
      by_cases d : x % 2 ^ (m + 1) = 2 ^ m
      · rw [if_pos d]
        by_cases e : x > 0
        · rw [if_pos e, key, if_pos (Or.inr ⟨d, e⟩)]
        · rw [if_neg e, key, if_neg (by omega)]
      · rw [if_neg d, key, if_neg (by omega)]
theorem sum8_l0 {w x : List Int} (hw : All8 w) (hx : All64 x) (hl : w.length = x.length) (hb : w.length ≤ 4611686018427387904) (d : Nat) : ∀ (k : Nat) (s i : Int), 0 ≤ i → (w.length : Int) - i = d → d < k → -9223372036854775808 ≤ s → s ≤ 9223372036854775807 →
    vec_sum_int8.l0 k x s w (w.length : Int) i = some (dotA s (w.drop i.toNat) (x.drop i.toNat)) := by
  induction d with
  | zero =>
    intro k s i h0 hd hk hs0 hs1
    obtain ⟨k, rfl⟩ : ∃ m, k = m + 1 := ⟨k - 1, by omega⟩
    simp only [vec_sum_int8.l0]
    rw [if_neg (by omega), drop_len (by omega)]
    rfl
  | succ d ih =>
    intro k s i h0 hd hk hs0 hs1
    obtain ⟨k, rfl⟩ : ∃ m, k = m + 1 := ⟨k - 1, by omega⟩
    have hp := clamp_prod (rd w i) (rd x i)
    have hr := rd8 hw i
    simp only [vec_sum_int8.l0]
    rw [if_pos (by omega), if_pos h0, if_pos (by omega), wrap64_id (x := rd w i) (by omega) (by omega), Clamp_eq]; simp only [Option.bind_some]
    rw [if_pos (by omega), Clamp_eq]; simp only [Option.bind_some]
    rw [wrap64_id (x := clampI (rd w i) * clampI (rd x i)) (by omega) (by omega), Add_eq ⟨hs0, hs1⟩ ⟨by omega, by omega⟩]; simp only [Option.bind_some]
    rw [wrap64_id (x := i + 1) (by omega) (by omega), ih k _ (i + 1) (by omega) (by omega) (by omega) (saddI_range _ _).1 (saddI_range _ _).2, drop_rd (l := w) h0 (by omega), drop_rd (l := x) h0 (by omega)]
    rfl
theorem sum8_eq {k : Nat} {w x : List Int} (hw : All8 w) (hx : All64 x) (hl : w.length = x.length) (hb : w.length ≤ 4611686018427387904) (hk : w.length < k) : vec_sum_int8.f k w x = some (dotA 0 w x) := by
  unfold vec_sum_int8.f
  rw [sum8_l0 hw hx hl hb w.length k 0 0 (by omega) (by omega) hk (by omega) (by omega)]
  rfl
theorem Dot_eq {k : Nat} {w x : List Int} (hw : All8 w) (hx : All64 x) (hb : w.length ≤ 4611686018427387904) (hk : w.length < k) : vec_Dot.f k w x = some (if w.length = x.length then (dotI w x, 0) else (0, 21)) := by
  unfold vec_Dot.f
  by_cases c : w.length = x.length
  · have hr := dotA_range 0 w x (by omega) (by omega)
    rw [if_pos (by omega), if_pos c, sum8_eq hw hx c hb hk]; simp only [Option.bind_some]
    rw [Shift_eq hr]; simp only [Option.bind_some]
    rw [Clamp_eq, shift_at nclamp6]; rfl
  · rw [if_neg (by omega), if_neg c]
theorem Same_l0 {a b : List Int} (hl : a.length = b.length) (hb : a.length ≤ 4611686018427387904) (d : Nat) : ∀ (k : Nat) (i : Int), 0 ≤ i → (a.length : Int) - i = d → d < k →
    aviaryref04_Same.l0 k a b i = some (decide (a.drop i.toNat = b.drop i.toNat)) := by
  induction d with
  | zero =>
    intro k i h0 hd hk
    obtain ⟨k, rfl⟩ : ∃ m, k = m + 1 := ⟨k - 1, by omega⟩
    simp only [aviaryref04_Same.l0]
    rw [if_neg (by omega), drop_len (by omega), drop_len (by omega)]
    simp
  | succ d ih =>
    intro k i h0 hd hk
    obtain ⟨k, rfl⟩ : ∃ m, k = m + 1 := ⟨k - 1, by omega⟩
    simp only [aviaryref04_Same.l0]
    rw [if_pos (by omega), if_pos h0, if_pos (by omega), drop_rd (l := a) h0 (by omega), drop_rd (l := b) h0 (by omega)]
    by_cases c : rd a i = rd b i
    · rw [if_pos c, wrap64_id (x := i + 1) (by omega) (by omega), ih k (i + 1) (by omega) (by omega) (by omega), c]
      simp
    · rw [if_neg c]
      simp [c]
theorem Same_eq {k : Nat} {a b : List Int} (hb : a.length ≤ 4611686018427387904) (hk : a.length < k) : aviaryref04_Same.f k a b = some (decide (a = b)) := by
  unfold aviaryref04_Same.f
  by_cases c : a.length = b.length
  · rw [if_pos (by omega), Same_l0 c hb a.length k 0 (by omega) (by omega) hk]
    rfl
  · rw [if_neg (by omega)]
    have : a ≠ b := fun h => c (by rw [h])
    simp [this]
theorem Same_refl {k : Nat} {a : List Int} (hb : a.length ≤ 4611686018427387904) (hk : a.length < k) : aviaryref04_Same.f k a a = some true := by rw [Same_eq hb hk]; simp
theorem Mat_l0 {x : List Int} (hx : All64 x) (hn : 0 < x.length) (hxl : x.length ≤ 4611686018427387904) (r : Nat) : ∀ (k : Nat) (w acc : List Int), All8 w → w.length = r * x.length → acc.length + r ≤ 17592186044416 → r + x.length + 1 < k →
    vec_Mat.l0 k w x (x.length : Int) acc = some (acc ++ mat1 x.length x r w, 0) := by
  induction r with
  | zero =>
    intro k w acc hw hl ha hk
    obtain ⟨k, rfl⟩ : ∃ m, k = m + 1 := ⟨k - 1, by omega⟩
    simp only [vec_Mat.l0]
    rw [if_neg (by omega)]
    simp [mat1]
  | succ r ih =>
    intro k w acc hw hl ha hk
    obtain ⟨k, rfl⟩ : ∃ m, k = m + 1 := ⟨k - 1, by omega⟩
    have hl' : w.length = r * x.length + x.length := by rw [hl, Nat.succ_mul]
    have hnn : ((x.length : Int)).toNat = x.length := by omega
    have ht : (w.take x.length).length = x.length := by rw [List.length_take]; omega
    simp only [vec_Mat.l0]
    rw [if_pos (by omega), if_pos (by omega), if_pos (by omega), hnn, Dot_eq (fun y hy => hw y (List.mem_of_mem_take hy)) hx (by omega) (by omega), if_pos ht]
    simp only [Option.bind_some]
    rw [if_pos (by omega), ih k _ _ (fun y hy => hw y (List.mem_of_mem_drop hy)) (by rw [List.length_drop]; omega) (by rw [List.length_append]; simp; omega) (by omega)]
    simp [mat1]
theorem Mat_eq {k : Nat} {w x : List Int} {rows : Int} (hw : All8 w) (hx : All64 x) (hb : w.length ≤ 17592186044416) (hxl : x.length ≤ 4611686018427387904) (hk : w.length + x.length + 2 < k) :
    vec_Mat.f k w rows x = some (if x.length = 0 ∨ rows < 0 ∨ w.length % x.length ≠ 0 ∨ ((w.length / x.length : Nat) : Int) ≠ rows then ([], 21) else (mat1 x.length x (w.length / x.length) w, 0)) := by
  obtain ⟨k, rfl⟩ : ∃ m, k = m + 1 := ⟨k - 1, by omega⟩
  have bad : vec_Mat.j0 (k + 1) w x (x.length : Int) true = some ([], 21) := by simp [vec_Mat.j0]
  unfold vec_Mat.f
  by_cases c1 : x.length = 0
  · rw [if_pos (by omega), bad, if_pos (Or.inl c1)]
  · rw [if_neg (by omega)]
    by_cases c2 : rows < 0
    · rw [if_pos c2, bad, if_pos (Or.inr (Or.inl c2))]
    · rw [if_neg c2]
      by_cases c3 : w.length % x.length = 0
      · have e : (w.length : Int) / (x.length : Int) = ((w.length / x.length : Nat) : Int) := by rw [Int.natCast_ediv]
        have hq : w.length / x.length ≤ w.length := Nat.div_le_self _ _
        have hm : w.length = w.length / x.length * x.length := by have := Nat.div_add_mod w.length x.length; rw [Nat.mul_comm]; omega
        have hz : ((w.length : Int) % (x.length : Int)) = 0 := by rw [← Int.natCast_emod]; omega
        rw [if_pos hz, e]
        clear e hz
        generalize w.length / x.length = q at *
        rw [wrap64_id (by omega) (by omega)]
        by_cases c4 : (q : Int) = rows
        · rw [if_neg (by simp [c1, c2, c3, c4])]
          simp only [vec_Mat.j0]
          rw [if_neg (by simp [c4]), Mat_l0 hx (by omega) hxl q k w [] hw hm (by simp; omega) (by omega)]
          rfl
        · rw [if_pos (Or.inr (Or.inr (Or.inr c4))), show ((q : Int) != rows) = true by simp [c4], bad]
      · rw [if_neg (by rw [← Int.natCast_emod]; omega), bad, if_pos (Or.inr (Or.inr (Or.inl c3)))]
def wB (n l h : Int) : Bool := decide (l ≤ n) && decide (n ≤ h)
def restB (a2 a3 a4 a7 : Int) : Bool := wB a2 1 2 && (wB a3 2 16 && (wB a4 1 8 && wB a7 0 16))
def mixB (a5 a6 : Int) : Bool := (decide (a5 = 0) && decide (a6 = 0)) || (wB a5 2 4 && wB a6 1 a5)
def headB (a0 a1 : Int) : Bool := wB a0 2 8 && (wB a1 1 a0 && (decide (Int.tdiv a0 a1 * a1 = a0) && decide (Int.tmod (Int.tdiv a0 a1) 2 = 0)))
def cfgB (a0 a1 a2 a3 a4 a5 a6 a7 : Int) : Bool := headB a0 a1 && (mixB a5 a6 && restB a2 a3 a4 a7)
theorem within_eq (n l h : Int) : ckpt_within.f n l h = some (wB n l h) := by
  unfold ckpt_within.f wB
  by_cases hh : l ≤ n
  · rw [if_pos hh]; simp [hh]
  · rw [if_neg hh]; simp [hh]
theorem j2_eq (k : Nat) (x : Bool) (a0 a1 a2 a3 a4 a5 a6 a7 : Int) : ckpt_Config.j2 (k + 1) x a0 a1 a2 a3 a4 a5 a6 a7 = some (x && restB a2 a3 a4 a7) := by
  simp only [ckpt_Config.j2, within_eq, Option.bind_some, restB]
  cases x <;> cases wB a2 1 2 <;> cases wB a3 2 16 <;> cases wB a4 1 8 <;> cases wB a7 0 16 <;> rfl
theorem j1_eq (k : Nat) (x : Bool) (a0 a1 a2 a3 a4 a5 a6 a7 : Int) : ckpt_Config.j1 (k + 2) x a0 a1 a2 a3 a4 a5 a6 a7 = some (!x && (mixB a5 a6 && restB a2 a3 a4 a7)) := by
  simp only [ckpt_Config.j1, within_eq, Option.bind_some, j2_eq, mixB]
  by_cases h5 : a5 = 0
  · by_cases h6 : a6 = 0
    · cases x <;> simp [h5, h6]
    · cases x <;> cases wB a5 2 4 <;> cases wB a6 1 a5 <;> cases restB a2 a3 a4 a7 <;> simp [h6]
  · cases x <;> cases wB a5 2 4 <;> cases wB a6 1 a5 <;> cases restB a2 a3 a4 a7 <;> simp [h5]
theorem fin_ (a0 a1 : Int) (h1 : 2 ≤ a0) (h2 : a0 ≤ 8) (h3 : 1 ≤ a1) (h4 : a1 ≤ a0) : wrap64 (Int.tdiv a0 a1) = Int.tdiv a0 a1 ∧ wrap64 (Int.tdiv a0 a1 * a1) = Int.tdiv a0 a1 * a1 ∧
    (decide (Int.tdiv a0 a1 * a1 = a0) && decide (Int.tmod (Int.tdiv a0 a1) 2 = 0)) = (decide (Int.tmod a0 2 = 0) && (wB a1 1 4 && (decide (Int.tmod a0 a1 = 0) && decide (Int.tmod (Int.tdiv a0 a1) 2 = 0)))) := by
  obtain rfl | rfl | rfl | rfl | rfl | rfl | rfl : a0 = 2 ∨ a0 = 3 ∨ a0 = 4 ∨ a0 = 5 ∨ a0 = 6 ∨ a0 = 7 ∨ a0 = 8 := by omega
  all_goals
    obtain rfl | rfl | rfl | rfl | rfl | rfl | rfl | rfl : a1 = 1 ∨ a1 = 2 ∨ a1 = 3 ∨ a1 = 4 ∨ a1 = 5 ∨ a1 = 6 ∨ a1 = 7 ∨ a1 = 8 := by omega
    all_goals first | (exfalso; omega) | (decide +kernel)
theorem Config_eq (k : Nat) (a0 a1 a2 a3 a4 a5 a6 a7 : Int) : ckpt_Config.f (k + 3) a0 a1 a2 a3 a4 a5 a6 a7 = some (cfgB a0 a1 a2 a3 a4 a5 a6 a7) := by
  simp only [ckpt_Config.f, within_eq, Option.bind_some, ckpt_Config.j0, j1_eq]
  unfold cfgB headB
  cases e0 : wB a0 2 8 with
  | false => simp
  | true =>
    cases e1 : wB a1 1 a0 with
    | false => simp
    | true =>
      have b0 := e0
      have b1 := e1
      simp only [wB, Bool.and_eq_true, decide_eq_true_eq] at b0 b1
      obtain ⟨f1, f2, _⟩ := fin_ a0 a1 b0.1 b0.2 b1.1 b1.2
      rw [f1, f2]
      have hne : a1 ≠ 0 := by omega
      by_cases c : Int.tdiv a0 a1 * a1 = a0
      · by_cases c2 : Int.tmod (Int.tdiv a0 a1) 2 = 0 <;> simp [c, c2, hne]
      · simp [c, hne]
theorem cfg_bounds {a0 a1 a2 a3 a4 a5 a6 a7 : Int} (h : cfgB a0 a1 a2 a3 a4 a5 a6 a7 = true) : (2 ≤ a0 ∧ a0 ≤ 8) ∧ (1 ≤ a1 ∧ a1 ≤ 8) ∧ (1 ≤ a2 ∧ a2 ≤ 2) ∧ (2 ≤ a3 ∧ a3 ≤ 16) ∧ (1 ≤ a4 ∧ a4 ≤ 8) ∧ (0 ≤ a5 ∧ a5 ≤ 4) ∧ (0 ≤ a6 ∧ a6 ≤ 4) ∧ (0 ≤ a7 ∧ a7 ≤ 16) := by
  simp only [cfgB, headB, mixB, restB, wB, Bool.and_eq_true, Bool.or_eq_true, decide_eq_true_eq] at h
  omega
theorem bSame_l0 {a b : List Int} (hl : a.length = b.length) (hb : a.length ≤ 4611686018427387904) (d : Nat) : ∀ (k : Nat) (i : Int), 0 ≤ i → (a.length : Int) - i = d → d < k →
    aviaryref08_Same.l0 k a b i = some (decide (a.drop i.toNat = b.drop i.toNat)) := by
  induction d with
  | zero =>
    intro k i h0 hd hk
    obtain ⟨k, rfl⟩ : ∃ m, k = m + 1 := ⟨k - 1, by omega⟩
    simp only [aviaryref08_Same.l0]
    rw [if_neg (by omega), drop_len (by omega), drop_len (by omega)]
    simp
  | succ d ih =>
    intro k i h0 hd hk
    obtain ⟨k, rfl⟩ : ∃ m, k = m + 1 := ⟨k - 1, by omega⟩
    simp only [aviaryref08_Same.l0]
    rw [if_pos (by omega), if_pos h0, if_pos (by omega), drop_rd (l := a) h0 (by omega), drop_rd (l := b) h0 (by omega)]
    by_cases c : rd a i = rd b i
    · rw [if_pos c, wrap64_id (x := i + 1) (by omega) (by omega), ih k (i + 1) (by omega) (by omega) (by omega), c]
      simp
    · rw [if_neg c]
      simp [c]
theorem bSame_eq {k : Nat} {a b : List Int} (hb : a.length ≤ 4611686018427387904) (hk : a.length < k) : aviaryref08_Same.f k a b = some (decide (a = b)) := by
  unfold aviaryref08_Same.f
  by_cases c : a.length = b.length
  · rw [if_pos (by omega), bSame_l0 c hb a.length k 0 (by omega) (by omega) hk]
    rfl
  · rw [if_neg (by omega)]
    have : a ≠ b := fun h => c (by rw [h])
    simp [this]
theorem take_bad {k : Nat} {s : ByteArray} {e n : Int} (he : e ≠ 0) (hk : 0 < k) : bytes_rest_take.f k s e n = some ((⟨#[]⟩ : ByteArray), false, s, e) := by
  obtain ⟨k, rfl⟩ : ∃ m, k = m + 1 := ⟨k - 1, by omega⟩
  unfold bytes_rest_take.f
  simp [bytes_rest_take.j0, he]
theorem take_short {k : Nat} {s : ByteArray} {n : Int} (hn : n > s.size) (hk : 0 < k) : bytes_rest_take.f k s 0 n = some ((⟨#[]⟩ : ByteArray), false, s, 22) := by
  obtain ⟨k, rfl⟩ : ∃ m, k = m + 1 := ⟨k - 1, by omega⟩
  unfold bytes_rest_take.f
  rw [if_pos rfl, decide_eq_true hn]
  simp [bytes_rest_take.j0]
theorem take_ok {k : Nat} {s : ByteArray} {n : Int} (h0 : 0 ≤ n) (hn : n ≤ s.size) (hk : 0 < k) : bytes_rest_take.f k s 0 n = some (s.extract 0 n.toNat, true, s.extract n.toNat s.size, 0) := by
  obtain ⟨k, rfl⟩ : ∃ m, k = m + 1 := ⟨k - 1, by omega⟩
  unfold bytes_rest_take.f
  rw [if_pos rfl, decide_eq_false (by omega)]
  simp only [bytes_rest_take.j0]
  rw [if_neg (by simp), if_pos trivial, if_pos h0, if_pos hn]
theorem Two_eq {k : Nat} {s : ByteArray} {e : Int} (hk : 0 < k) : bytes_Reader_Two.f k s e = some (twoR s e) := by
  unfold bytes_Reader_Two.f twoR
  by_cases c : e = 0
  · subst c
    by_cases c2 : s.size < 2
    · rw [take_short (by omega) hk, if_pos rfl, if_pos c2]
      rfl
    · have z : (s.extract 0 (2 : Int).toNat).size = 2 := by
        rw [ByteArray.size_extract]; show min 2 s.size - 0 = 2; omega
      rw [take_ok (by omega) (by omega) hk, if_pos rfl, if_neg c2]
      simp only [Option.bind_some]
      rw [if_pos trivial, z, if_pos (by omega), if_pos (by omega)]
      have b0 : bt (s.extract 0 (2 : Int).toNat) 0 = bt s 0 := bt_extract (by decide) (by decide) (by show 2 ≤ s.size; omega)
      have b1 : bt (s.extract 0 (2 : Int).toNat) 1 = bt s 1 := bt_extract (by decide) (by decide) (by show 2 ≤ s.size; omega)
      have r0 := bt_range s 0
      have r1 := bt_range s 1
      rw [b0, b1, wrap64_id (by omega) (by omega), wrap64_id (x := bt s 1) (by omega) (by omega), wrap64_id (x := bt s 1 * 256) (by omega) (by omega), or_bytes r0.1 r0.2 r1.1 r1.2]
      rfl
  · rw [take_bad c hk, if_neg c]
    rfl
theorem bW_l0 {s : ByteArray} {n : Nat} (t : ByteArray) (e : Int) (hn : n ≤ s.size) (hb : n ≤ 4611686018427387904) (d : Nat) : ∀ (k : Nat) (i : Int), 0 ≤ i → (n : Int) - i = d → d < k →
    bytes_Reader_Weights.l0 k (s.extract 0 n) (fillI (i8s s n) i) n i t e = some (i8s s n, t, e) := by
  have hL := i8s_len s n
  have z : (s.extract 0 n).size = n := by rw [ByteArray.size_extract]; omega
  induction d with
  | zero =>
    intro k i h0 hd hk
    obtain ⟨k, rfl⟩ : ∃ m, k = m + 1 := ⟨k - 1, by omega⟩
    simp only [bytes_Reader_Weights.l0]
    rw [if_neg (by omega), fillI_end (by omega)]
  | succ d ih =>
    intro k i h0 hd hk
    obtain ⟨k, rfl⟩ : ∃ m, k = m + 1 := ⟨k - 1, by omega⟩
    have b : bt (s.extract 0 n) i = bt s i := by
      have h := bt_extract (s := s) (a := 0) (b := n) (i := i) h0 (by omega) hn
      rw [h]; simp
    simp only [bytes_Reader_Weights.l0]
    rw [if_pos (by omega), if_pos h0, z, if_pos (by omega), if_pos (by rw [fillI_len (by omega)]; omega), b, ← i8s_rd s (n := n) h0 (by omega), fillI_set h0 (by omega), wrap64_id (x := i + 1) (by omega) (by omega)]
    exact ih k (i + 1) (by omega) (by omega) (by omega)
theorem Weights_eq {k : Nat} {s : ByteArray} {e n : Int} (hk : 65540 < k) : bytes_Reader_Weights.f k s e n = some (weightsR s e n) := by
  obtain ⟨k, rfl⟩ : ∃ m, k = m + 1 := ⟨k - 1, by omega⟩
  have hr := twoR_range s e
  unfold bytes_Reader_Weights.f
  rw [Two_eq (by omega)]
  simp only [Option.bind_some]
  unfold weightsR
  generalize twoR s e = t at hr
  obtain ⟨c, s1, e1⟩ := t
  simp only at hr ⊢
  have bad : ∀ x : Int, x ≠ 0 → bytes_Reader_Weights.j1 k c s1 x = some ([], s1, x) := by
    intro x hx
    obtain ⟨k, rfl⟩ : ∃ m, k = m + 1 := ⟨k - 1, by omega⟩
    simp only [bytes_Reader_Weights.j1]
    rw [take_bad hx (by omega)]
    rfl
  by_cases ce : e1 = 0
  · subst ce
    by_cases cn : c = n
    · subst cn
      obtain ⟨m, rfl⟩ := Int.eq_ofNat_of_zero_le hr.1
      rw [if_pos rfl, if_pos rfl, if_pos rfl]
      simp only [bytes_Reader_Weights.j0, bne_self_eq_false, Bool.false_eq_true, if_false]
      obtain ⟨k, rfl⟩ : ∃ m, k = m + 1 := ⟨k - 1, by omega⟩
      simp only [bytes_Reader_Weights.j1]
      by_cases cs : (s1.size : Int) < m
      · rw [take_short (by omega) (by omega), if_pos cs]
        rfl
      · rw [take_ok (by omega) (by omega) (by omega), if_neg cs]
        simp only [Option.bind_some, if_true]
        have e : List.replicate ((m : Int)).toNat (0 : Int) = fillI (i8s s1 m) 0 := by rw [fillI_zero, i8s_len]; rfl
        rw [if_pos (by omega), if_pos (by omega), e, fillI_len (by rw [i8s_len]; omega), i8s_len]
        exact bW_l0 _ _ (by omega) (by omega) m k 0 (by omega) (by omega) (by omega)
    · have hb : (c != n) = true := by simpa using cn
      rw [if_pos rfl, if_pos rfl, if_neg cn, hb]
      simp only [bytes_Reader_Weights.j0, if_true]
      exact bad 21 (by decide)
  · rw [if_neg ce, if_neg ce]
    simp only [bytes_Reader_Weights.j0, Bool.false_eq_true, if_false]
    exact bad e1 ce
theorem End_eq {s : ByteArray} {e : Int} : bytes_Reader_End.f s e = some (endR s e, s, e) := by
  unfold bytes_Reader_End.f endR
  by_cases c : e = 0
  · subst c
    by_cases c2 : s.size = 0
    · rw [if_pos rfl, if_pos ((nil_size s).2 c2), if_pos rfl, if_pos c2]
    · rw [if_pos rfl, if_neg (fun h => c2 ((nil_size s).1 h)), if_pos rfl, if_neg c2]
  · rw [if_neg c, if_neg c]
theorem Sum_l0 {L : List Int} (hr : ∀ x ∈ L, 0 ≤ x ∧ x ≤ 255) (hb : L.length ≤ 4611686018427387904) (d : Nat) : ∀ (k : Nat) (a b i : Int), 0 ≤ i → (L.length : Int) - i = d → d < k → 0 ≤ a → a ≤ 254 → 0 ≤ b → b ≤ 254 →
    bytes_Sum.l0 k L a b i = some (sumL (L.drop i.toNat) a b) := by
  induction d with
  | zero =>
    intro k a b i h0 hd hk ha0 ha1 hb0 hb1
    obtain ⟨k, rfl⟩ : ∃ m, k = m + 1 := ⟨k - 1, by omega⟩
    simp only [bytes_Sum.l0]
    rw [if_neg (by omega), drop_len (by omega), wrap64_id (x := 256 * b) (by omega) (by omega), wrap64_id (by omega) (by omega)]
    rfl
  | succ d ih =>
    intro k a b i h0 hd hk ha0 ha1 hb0 hb1
    obtain ⟨k, rfl⟩ : ∃ m, k = m + 1 := ⟨k - 1, by omega⟩
    have hc := hr _ (rd_mem (l := L) h0 (by omega))
    simp only [bytes_Sum.l0]
    rw [if_pos (by omega), if_pos h0, wrap64_id (x := rd L i) (by omega) (by omega), wrap64_id (x := a + rd L i) (by omega) (by omega), Int.tmod_eq_emod_of_nonneg (a := a + rd L i) (by omega), wrap64_id (x := b + (a + rd L i) % 255) (by omega) (by omega), Int.tmod_eq_emod_of_nonneg (by omega), wrap64_id (x := i + 1) (by omega) (by omega), drop_rd (l := L) h0 (by omega)]
    exact ih k _ _ (i + 1) (by omega) (by omega) (by omega) (by omega) (by omega) (by omega) (by omega)
theorem Sum_eq {k : Nat} {s : ByteArray} (hb : s.size ≤ 4611686018427387904) (hk : s.size < k) : bytes_Sum.f k s = some (sumR s) := by
  unfold bytes_Sum.f
  rw [if_pos hb]
  exact Sum_l0 bytesOf_range (by rw [bytesOf_length]; exact hb) s.size k 0 0 0 (by omega) (by rw [bytesOf_length]; omega) hk (by omega) (by omega) (by omega) (by omega)
theorem bTwo_eq (n : Int) : bytes_Two.f n = some (twoS n) := rfl
theorem Open_eq {k : Nat} {s : ByteArray} (hb : s.size ≤ 4611686018427387904) (hk : s.size < k) : bytes_Open.f k s = some (openR s) := by
  unfold bytes_Open.f openR
  rw [wrap64_id (x := (s.size : Int) - 2) (by omega) (by omega)]
  by_cases c : s.size < 2
  · rw [if_pos (by omega), if_pos c]
  · have e : ((s.size : Int) - 2).toNat = s.size - 2 := by omega
    have z : (s.extract 0 (s.size - 2)).size ≤ s.size := by rw [ByteArray.size_extract]; omega
    rw [if_neg (by omega), if_pos (by omega), if_pos (by omega), if_neg c, e, Sum_eq (by omega) (by omega)]
    simp only [Option.bind_some, bTwo_eq]
    by_cases c2 : s.extract (s.size - 2) s.size = twoS (sumR (s.extract 0 (s.size - 2)))
    · rw [if_pos (same_bytes.2 c2), if_pos c2]
    · rw [if_neg (fun h => c2 (same_bytes.1 h)), if_neg c2]
theorem Seal_eq {k : Nat} {s : ByteArray} (hb : s.size ≤ 4611686018427387904) (hk : s.size < k) : bytes_Seal.f k s = some (sealR s) := by
  unfold bytes_Seal.f
  rw [Sum_eq hb hk]
  simp only [Option.bind_some, bTwo_eq]
  rw [twoS_size, if_pos (by omega)]
  rfl
theorem wW_l0 {L : List Int} (hb : L.length ≤ 65535) (d : Nat) : ∀ (k : Nat) (o : List Int) (i : Int), 0 ≤ i → (L.length : Int) - i = d → d < k → o.length ≤ 65540 + i →
    bytes_Weights.l0 k o L L.length i = some (strOfNums (o ++ (L.drop i.toNat).map fun x => x % 256)) := by
  induction d with
  | zero =>
    intro k o i h0 hd hk ho
    obtain ⟨k, rfl⟩ : ∃ m, k = m + 1 := ⟨k - 1, by omega⟩
    simp only [bytes_Weights.l0]
    rw [if_neg (by omega), drop_len (by omega)]
    simp
  | succ d ih =>
    intro k o i h0 hd hk ho
    obtain ⟨k, rfl⟩ : ∃ m, k = m + 1 := ⟨k - 1, by omega⟩
    simp only [bytes_Weights.l0]
    rw [if_pos (by omega), if_pos h0, if_pos (by omega), if_pos (by omega), wrap64_id (x := i + 1) (by omega) (by omega), ih k _ (i + 1) (by omega) (by omega) (by omega) (by simp; omega), drop_rd (l := L) h0 (by omega)]
    simp
theorem WeightsS_eq {k : Nat} {l : List Int} (hk : 65535 < k) : bytes_Weights.f k l = some (weightsS l) := by
  have hl : (l.take (min l.length 65535)).length = min l.length 65535 := by rw [List.length_take]; omega
  have hw := wW_l0 (L := l.take (min l.length 65535)) (by omega) (min l.length 65535) k (bytesOf (twoS ((min l.length 65535 : Nat) : Int))) 0 (by omega) (by omega) (by omega) (by rw [bytesOf_length, twoS_size]; omega)
  rw [hl] at hw
  unfold bytes_Weights.f
  rw [bTwo_eq]
  simp only [Option.bind_some]
  rw [twoS_size, if_pos (by omega), hw, strOfNums_append, strOfNums_bytesOf]
  rfl
theorem Apply_l0 {M : List Int} (s : Int) (hM : All64 M) (hb : M.length ≤ 4611686018427387904) (d : Nat) : ∀ (k : Nat) (i : Int), 0 ≤ i → (M.length : Int) - i = d → d < k →
    graft_Apply.l0 k s (overI (M.map fun v => shiftI v s) M i) (M.length : Int) i = some (M.map (fun v => shiftI v s), 0) := by
  have hL : (M.map fun v => shiftI v s).length = M.length := by simp
  induction d with
  | zero =>
    intro k i h0 hd hk
    obtain ⟨k, rfl⟩ : ∃ m, k = m + 1 := ⟨k - 1, by omega⟩
    simp only [graft_Apply.l0]
    rw [if_neg (by omega), overI_end hL (by omega)]
  | succ d ih =>
    intro k i h0 hd hk
    obtain ⟨k, rfl⟩ : ∃ m, k = m + 1 := ⟨k - 1, by omega⟩
    simp only [graft_Apply.l0]
    rw [if_pos (by omega), if_pos h0, if_pos (by rw [overI_len hL]; omega), overI_rd hL h0 (by omega), Shift_eq (rd64 hM i)]; simp only [Option.bind_some]
    have e : shiftI (rd M i) s = rd (M.map fun v => shiftI v s) i := by rw [rd_map h0 (by omega)]
    rw [e, overI_set hL h0 (by omega), wrap64_id (x := i + 1) (by omega) (by omega)]
    exact ih k (i + 1) (by omega) (by omega) (by omega)
theorem Apply_eq {k : Nat} {a b x : List Int} {rank shift : Int} (ha : All8 a) (hb : All8 b) (hx : All64 x) (hal : a.length ≤ 17592186044415) (hbl : b.length ≤ 17592186044415) (hxl : x.length ≤ 17592186044415) (hk : a.length + b.length + x.length + 10 < k) :
    graft_Apply.f k a b rank shift x = some (applyI a b rank shift x) := by
  have h1 := matR_len a rank x
  have h2 := matR_len b x.length (matR a rank x).1
  unfold graft_Apply.f applyI
  rw [show vec_Mat.f k a rank x = some (matR a rank x) from Mat_eq ha hx (by omega) (by omega) (by omega), Option.bind_some]
  by_cases c : (matR a rank x).2 = 0
  · rw [if_pos c, if_pos c, show vec_Mat.f k b (x.length : Int) (matR a rank x).1 = some (matR b x.length (matR a rank x).1) from Mat_eq hb (matR_all64 _ _ _) (by omega) (by omega) (by omega), Option.bind_some]
    by_cases c2 : (matR b x.length (matR a rank x).1).2 = 0
    · rw [if_pos c2, if_pos c2]
      have := Apply_l0 shift (matR_all64 b x.length (matR a rank x).1) (by omega) _ k 0 (by omega) (Int.sub_zero _) (by omega)
      rw [overI_zero] at this
      exact this
    · rw [if_neg c2, if_neg c2]
  · rw [if_neg c, if_neg c]
def rightB (a0 a1 b0 b1 b2 b3 b4 b5 b6 b7 : Int) : Bool := cfgB b0 b1 b2 b3 b4 b5 b6 b7 && (wB a0 1 4 && wB a1 0 8)
theorem right_eq (k : Nat) (a0 a1 b0 b1 b2 b3 b4 b5 b6 b7 : Int) : graft_right.f (k + 3) a0 a1 b0 b1 b2 b3 b4 b5 b6 b7 = some (rightB a0 a1 b0 b1 b2 b3 b4 b5 b6 b7) := by
  simp only [graft_right.f, Config_eq, Option.bind_some, rightB]
  cases cfgB b0 b1 b2 b3 b4 b5 b6 b7
  · simp
  · simp only [wB, if_true, Bool.true_and]
    by_cases h1 : 1 ≤ a0
    · by_cases h2 : a0 ≤ 4
      · by_cases h3 : 0 ≤ a1
        · simp [h1, h2, h3]
        · simp [h1, h2, h3]
      · simp [h1, h2]
    · simp [h1]
theorem right_bounds {a0 a1 b0 b1 b2 b3 b4 b5 b6 b7 : Int} (h : rightB a0 a1 b0 b1 b2 b3 b4 b5 b6 b7 = true) : (1 ≤ a0 ∧ a0 ≤ 4) ∧ (0 ≤ a1 ∧ a1 ≤ 8) ∧ (2 ≤ b0 ∧ b0 ≤ 8) ∧ (1 ≤ b2 ∧ b2 ≤ 2) ∧ 2 ≤ a0 * b0 ∧ a0 * b0 ≤ 32 := by
  simp only [rightB, Bool.and_eq_true] at h
  have hc := cfg_bounds h.1
  have hw := h.2
  simp only [wB, Bool.and_eq_true, decide_eq_true_eq] at hw
  refine ⟨hw.1, hw.2, hc.1, hc.2.2.1, ?_⟩
  obtain ⟨⟨h1, h2⟩, _⟩ := hw
  obtain ⟨⟨h3, h4⟩, _⟩ := hc
  obtain rfl | rfl | rfl | rfl : a0 = 1 ∨ a0 = 2 ∨ a0 = 3 ∨ a0 = 4 := by omega
  all_goals omega
/-- What Shape answers. -/
def shapeR (a0 a1 b0 b2 : Int) (right : Bool) (l : List Int) : Int × Int × List S59 × Int :=
  if right = true then (if (l.length : Int) = b2 * 4 * (a0 * b0) then (a0, a1, shape59 b2.toNat (a0 * b0).toNat l, 0) else (0, 0, [], 21)) else (0, 0, [], 20)
theorem size_wrap {a0 b0 b2 : Int} (h1 : 1 ≤ b2 ∧ b2 ≤ 2) (h2 : 2 ≤ a0 * b0 ∧ a0 * b0 ≤ 32) : wrap64 (wrap64 (b2 * 4) * wrap64 (a0 * b0)) = b2 * 4 * (a0 * b0) := by
  rw [show wrap64 (b2 * 4) = b2 * 4 by unfold wrap64; omega, show wrap64 (a0 * b0) = a0 * b0 by unfold wrap64; omega]
  obtain rfl | rfl : b2 = 1 ∨ b2 = 2 := by omega
  all_goals unfold wrap64; omega
theorem Shape_eq (k : Nat) (a0 a1 b0 b1 b2 b3 b4 b5 b6 b7 : Int) (l : List Int) : graft_Shape.f (k + 3) a0 a1 b0 b1 b2 b3 b4 b5 b6 b7 l = some (shapeR a0 a1 b0 b2 (rightB a0 a1 b0 b1 b2 b3 b4 b5 b6 b7) l) := by
  simp only [graft_Shape.f, right_eq, Option.bind_some, shapeR]
  cases e : rightB a0 a1 b0 b1 b2 b3 b4 b5 b6 b7
  · simp
  · obtain ⟨_, _, _, h4, h5⟩ := right_bounds e
    rw [size_wrap h4 h5]
    simp only [if_true]
    by_cases hl : (l.length : Int) = b2 * 4 * (a0 * b0)
    · rw [if_pos hl, if_pos hl, if_pos (by omega)]
    · rw [if_neg hl, if_neg hl]
theorem gSame_true (l : List S59) (x0 x1 : Int) : aviaryref10_Same.f x0 x1 l x0 x1 l = some true := by
  simp [aviaryref10_Same.f, eqL59_refl]
def pre2 (t : ByteArray) (a b : UInt8) : Bool := decide (2 ≤ t.size) && decide (t.extract 0 2 = ⟨#[a, b]⟩)
theorem CutPrefix_eq (t : ByteArray) (a b : UInt8) : strings_CutPrefix.f t (⟨#[a, b]⟩ : ByteArray) = some (if pre2 t a b = true then (t.extract 2 t.size, true) else (t, false)) := by
  unfold strings_CutPrefix.f stringslite_CutPrefix.f stringslite_HasPrefix.f
  have hz : ((⟨#[a, b]⟩ : ByteArray).size : Int) = 2 := rfl
  simp only [hz]
  by_cases h : 2 ≤ t.size
  · rw [if_pos (by omega), if_pos (by omega), if_pos (by omega)]
    simp only [Option.bind_some]
    by_cases hp : t.extract 0 2 = ⟨#[a, b]⟩
    · have h1 : ((t.extract 0 ((2 : Int).toNat)).toList == (⟨#[a, b]⟩ : ByteArray).toList) = true := by
        rw [beq_iff_eq]; exact same_bytes.2 hp
      rw [h1, if_pos rfl, if_pos (by omega), if_pos (by omega)]
      simp [pre2, h, hp]
    · have h1 : ((t.extract 0 ((2 : Int).toNat)).toList == (⟨#[a, b]⟩ : ByteArray).toList) = false := by
        rw [beq_eq_false_iff_ne]; exact fun e => hp (same_bytes.1 e)
      rw [h1, if_neg (by simp)]
      simp [pre2, h, hp]
  · rw [if_neg (by omega)]
    simp [pre2, h]
theorem openR_size (s : ByteArray) : (openR s).1.size ≤ s.size := by
  unfold openR
  split
  · exact Nat.zero_le _
  · split
    · rw [ByteArray.size_extract]; omega
    · exact Nat.zero_le _
theorem weightsR_ok {s : ByteArray} {e n : Int} (hn : 0 ≤ n) (h : (weightsR s e n).2.2 = 0) : ((weightsR s e n).1.length : Int) = n := by
  unfold weightsR at h ⊢
  split at h
  · rename_i c
    rw [if_pos c]
    split at h
    · rename_i c2
      rw [if_pos c2]
      split at h
      · simp at h
      · rename_i c3
        rw [if_neg c3, i8s_len]
        omega
    · simp at h
  · rename_i c
    exact absurd h c
/-- What Decode answers. -/
def gBad : Int × Int × List S59 × Int := (0, 0, [], 1)
def gDec2 (t : ByteArray) (b0 b1 b2 b3 b4 b5 b6 b7 : Int) : Int × Int × List S59 × Int :=
  let q := twoR t 0
  let p := twoR q.2.1 q.2.2
  let w := weightsR p.2.1 p.2.2 (b2 * 4 * (q.1 * b0))
  if rightB q.1 p.1 b0 b1 b2 b3 b4 b5 b6 b7 = true then (if endR w.2.1 w.2.2 = 0 then (q.1, p.1, shape59 b2.toNat (q.1 * b0).toNat w.1, 0) else gBad) else gBad
def gDecR (s : ByteArray) (b0 b1 b2 b3 b4 b5 b6 b7 : Int) : Int × Int × List S59 × Int :=
  if s.size ≤ 16384 ∧ (openR s).2 = 0 ∧ pre2 (openR s).1 71 82 = true then gDec2 ((openR s).1.extract 2 (openR s).1.size) b0 b1 b2 b3 b4 b5 b6 b7 else gBad
theorem wrap_three {a0 b0 b2 : Int} (h1 : 1 ≤ b2 ∧ b2 ≤ 2) (h0 : 1 ≤ a0 ∧ a0 ≤ 4) (h2 : 2 ≤ b0 ∧ b0 ≤ 8) : wrap64 (wrap64 (wrap64 (b2 * 4) * a0) * b0) = b2 * 4 * (a0 * b0) ∧ 0 ≤ b2 * 4 * (a0 * b0) := by
  rw [show wrap64 (b2 * 4) = b2 * 4 by unfold wrap64; omega]
  obtain rfl | rfl : b2 = 1 ∨ b2 = 2 := by omega
  all_goals
    obtain rfl | rfl | rfl | rfl : a0 = 1 ∨ a0 = 2 ∨ a0 = 3 ∨ a0 = 4 := by omega
    all_goals
      constructor
      · simp only [Int.reduceMul]
        unfold wrap64
        omega
      · omega
theorem endR_zero {s : ByteArray} {e : Int} (h : endR s e = 0) : e = 0 := by
  unfold endR at h
  split at h
  · assumption
  · exact h
theorem Decode_j0 {k : Nat} (t : ByteArray) (b0 b1 b2 b3 b4 b5 b6 b7 : Int) (hk : 65540 < k) : graft_Decode.j0 (k + 4) t false b0 b1 b2 b3 b4 b5 b6 b7 = some (gDec2 t b0 b1 b2 b3 b4 b5 b6 b7) := by
  have hr := right_eq k
  have hs := Shape_eq k
  simp only [graft_Decode.j0, bytes_NewReader.f, Option.bind_some, Bool.false_eq_true, if_false, Two_eq (show 0 < k + 3 by omega), hr, hs, Weights_eq (show 65540 < k + 3 by omega), End_eq]
  unfold gDec2
  generalize twoR t 0 = q
  simp only
  generalize twoR q.2.1 q.2.2 = p
  cases e : rightB q.1 p.1 b0 b1 b2 b3 b4 b5 b6 b7
  · simp [gBad]
  · obtain ⟨h1, _, h3, h4, h5⟩ := right_bounds e
    obtain ⟨hw, hw0⟩ := wrap_three h4 h1 h3
    simp only [if_true, hw]
    generalize hW : weightsR p.2.1 p.2.2 (b2 * 4 * (q.1 * b0)) = w
    by_cases hE : endR w.2.1 w.2.2 = 0
    · have hl : (w.1.length : Int) = b2 * 4 * (q.1 * b0) := by rw [← hW]; exact weightsR_ok hw0 (by rw [hW]; exact endR_zero hE)
      simp [shapeR, hl, hE]
    · simp [hE, gBad]
theorem Decode_eq {k : Nat} (s : ByteArray) (b0 b1 b2 b3 b4 b5 b6 b7 : Int) (hb : s.size ≤ 4611686018427387904) (hk : 65540 + s.size < k) : graft_Decode.f (k + 4) s b0 b1 b2 b3 b4 b5 b6 b7 = some (gDecR s b0 b1 b2 b3 b4 b5 b6 b7) := by
  have hbad : ∀ t, graft_Decode.j0 (k + 4) t true b0 b1 b2 b3 b4 b5 b6 b7 = some gBad := fun t => by simp [graft_Decode.j0, gBad]
  have hgood : ∀ t, graft_Decode.j0 (k + 4) t false b0 b1 b2 b3 b4 b5 b6 b7 = some (gDec2 t b0 b1 b2 b3 b4 b5 b6 b7) := fun t => Decode_j0 t _ _ _ _ _ _ _ _ (by omega)
  simp only [graft_Decode.f, Open_eq hb (show s.size < k + 4 by omega), Option.bind_some, CutPrefix_eq]
  unfold gDecR
  by_cases h1 : s.size ≤ 16384
  · have h1' : ¬ ((s.size : Int) > 16384) := by omega
    by_cases h2 : (openR s).2 = 0
    · cases h3 : pre2 (openR s).1 71 82
      · simp [h1', h2, hbad]
      · simp [h1, h1', h2, hgood]
    · simp [h1', h2, hbad]
  · have h1' : (s.size : Int) > 16384 := by omega
    simp [h1, h1', hbad]
def chkR (a0 a1 : Int) (l : List S59) (b0 b2 : Int) (right : Bool) : Int := if right = true then (if (l.length : Int) = b2 then (if (l.all fun g => fit59 g (a0 * b0)) = true then 0 else 21) else 21) else 20
theorem mul_wrap {a0 b0 : Int} (h : 2 ≤ a0 * b0 ∧ a0 * b0 ≤ 32) : wrap64 (a0 * b0) = a0 * b0 := by unfold wrap64; omega
theorem Check_eq (k : Nat) (a0 a1 : Int) (l : List S59) (b0 b1 b2 b3 b4 b5 b6 b7 : Int) : graft_Check.f (k + 3) a0 a1 l b0 b1 b2 b3 b4 b5 b6 b7 = some (chkR a0 a1 l b0 b2 (rightB a0 a1 b0 b1 b2 b3 b4 b5 b6 b7)) := by
  simp only [graft_Check.f, right_eq, Option.bind_some, chkR]
  cases e : rightB a0 a1 b0 b1 b2 b3 b4 b5 b6 b7
  · simp
  · obtain ⟨_, _, _, h4, h5⟩ := right_bounds e
    rw [mul_wrap h5]
    simp only [if_true]
    split
    · split <;> rfl
    · rfl
theorem chkR_zero {a0 a1 : Int} {l : List S59} {b0 b1 b2 b3 b4 b5 b6 b7 : Int} (h : chkR a0 a1 l b0 b2 (rightB a0 a1 b0 b1 b2 b3 b4 b5 b6 b7) = 0) : rightB a0 a1 b0 b1 b2 b3 b4 b5 b6 b7 = true ∧ (l.length : Int) = b2 ∧ ∀ g ∈ l, fit59 g (a0 * b0) = true := by
  unfold chkR at h
  cases e : rightB a0 a1 b0 b1 b2 b3 b4 b5 b6 b7
  · rw [e] at h; simp at h
  · rw [e, if_pos rfl] at h
    by_cases h1 : (l.length : Int) = b2
    · rw [if_pos h1] at h
      by_cases h2 : (l.all fun g => fit59 g (a0 * b0)) = true
      · exact ⟨rfl, h1, List.all_eq_true.1 h2⟩
      · rw [if_neg h2] at h; simp at h
    · rw [if_neg h1] at h; simp at h
theorem fit_len {g : S59} {m : Int} (h : fit59 g m = true) : (g.f0.length : Int) = m ∧ (g.f1.length : Int) = m ∧ (g.f2.length : Int) = m ∧ (g.f3.length : Int) = m := by
  simpa [fit59] using h
theorem flat59_cons (g : S59) (l : List S59) : flat59 (g :: l) = g.f0 ++ g.f1 ++ g.f2 ++ g.f3 ++ flat59 l := by simp [flat59]
theorem flat59_app (l m : List S59) : flat59 (l ++ m) = flat59 l ++ flat59 m := by simp [flat59, List.flatMap_append]
theorem flat59_len {m : Nat} : ∀ {l : List S59}, (∀ g ∈ l, fit59 g (m : Int) = true) → (flat59 l).length = l.length * 4 * m
  | [], _ => by simp [flat59]
  | g :: l, h => by
    have h1 := fit_len (h g (by simp))
    have h2 := flat59_len (l := l) (fun x hx => h x (by simp [hx]))
    rw [flat59_cons]
    simp only [List.length_append, List.length_cons, h2]
    have e : (l.length + 1) * 4 * m = l.length * 4 * m + 4 * m := by rw [Nat.add_mul, Nat.add_mul]
    omega
theorem chk_small {a0 a1 : Int} {l : List S59} {b0 b1 b2 b3 b4 b5 b6 b7 : Int} (h : chkR a0 a1 l b0 b2 (rightB a0 a1 b0 b1 b2 b3 b4 b5 b6 b7) = 0) : (flat59 l).length ≤ 256 ∧ ((flat59 l).length : Int) = b2 * 4 * (a0 * b0) := by
  obtain ⟨h1, h2, h3⟩ := chkR_zero h
  obtain ⟨_, _, _, h4, h5⟩ := right_bounds h1
  obtain ⟨m, hm⟩ := Int.eq_ofNat_of_zero_le (show 0 ≤ a0 * b0 by omega)
  rw [hm] at h3 h5 ⊢
  have h6 := flat59_len h3
  have h7 : l.length = 1 ∨ l.length = 2 := by omega
  rcases h7 with h7 | h7 <;> rw [h7] at h6 h2 <;> subst h2 <;> omega
theorem Flat_eq (k : Nat) (a0 a1 : Int) (l : List S59) (b0 b1 b2 b3 b4 b5 b6 b7 : Int) : graft_Flat.f (k + 3) a0 a1 l b0 b1 b2 b3 b4 b5 b6 b7 = some (if chkR a0 a1 l b0 b2 (rightB a0 a1 b0 b1 b2 b3 b4 b5 b6 b7) = 0 then flat59 l else []) := by
  simp only [graft_Flat.f, Check_eq, Option.bind_some]
  by_cases h : chkR a0 a1 l b0 b2 (rightB a0 a1 b0 b1 b2 b3 b4 b5 b6 b7) = 0
  · rw [if_pos h, if_pos h, if_pos (by have := (chk_small h).1; omega)]
  · rw [if_neg h, if_neg h]
/-- What Encode answers. -/
def encBody (a0 a1 : Int) (W : List Int) : ByteArray := (⟨#[71, 82]⟩ : ByteArray) ++ twoS a0 ++ twoS a1 ++ weightsS W
def encR (a0 a1 : Int) (l : List S59) (chk : Int) : ByteArray × Int := if chk = 0 then (sealR (encBody a0 a1 (flat59 l)), 0) else (⟨#[]⟩, chk)
theorem GR_size : (⟨#[71, 82]⟩ : ByteArray).size = 2 := rfl
theorem encBody_size (a0 a1 : Int) (W : List Int) : (encBody a0 a1 W).size = 8 + min W.length 65535 := by
  unfold encBody
  simp only [ByteArray.size_append, twoS_size, weightsS_size, GR_size]
  omega
theorem Encode_eq {k : Nat} (a0 a1 : Int) (l : List S59) (b0 b1 b2 b3 b4 b5 b6 b7 : Int) (hk : 70000 < k) : graft_Encode.f (k + 3) a0 a1 l b0 b1 b2 b3 b4 b5 b6 b7 = some (encR a0 a1 l (chkR a0 a1 l b0 b2 (rightB a0 a1 b0 b1 b2 b3 b4 b5 b6 b7))) := by
  simp only [graft_Encode.f, Check_eq, Flat_eq, Option.bind_some, bTwo_eq, WeightsS_eq (show 65535 < k + 3 by omega), encR]
  by_cases h : chkR a0 a1 l b0 b2 (rightB a0 a1 b0 b1 b2 b3 b4 b5 b6 b7) = 0
  · have hs := encBody_size a0 a1 (flat59 l)
    rw [if_pos h, if_pos h, if_pos h, if_pos (by rw [twoS_size]; omega), if_pos (by rw [ByteArray.size_append, twoS_size, twoS_size, GR_size]; omega), if_pos (by rw [ByteArray.size_append, ByteArray.size_append, twoS_size, twoS_size, GR_size, weightsS_size]; omega)]
    have := Seal_eq (k := k + 3) (s := encBody a0 a1 (flat59 l)) (by omega) (by omega)
    unfold encBody at this
    rw [this]
    rfl
  · rw [if_neg h, if_neg h]
/-- What is known of an element of an adapter that came in. -/
def Good8 (l : List Int) : Prop := l.length * 1 ≤ reachBytes ∧ ∀ v ∈ l, (Lit.int .i8 v).wf = true
def Good59 (g : S59) : Prop := Good8 g.f0 ∧ Good8 g.f1 ∧ Good8 g.f2 ∧ Good8 g.f3
theorem Good8.lt {l : List Int} (h : Good8 l) : l.length < 140737488355328 := by
  have := h.1
  simp only [reachBytes] at this
  omega
theorem Good59.small {g : S59} (h : Good59 g) : g.f0.length < 140737488355328 ∧ g.f1.length < 140737488355328 ∧ g.f2.length < 140737488355328 ∧ g.f3.length < 140737488355328 := ⟨h.1.lt, h.2.1.lt, h.2.2.1.lt, h.2.2.2.lt⟩
theorem i64_of_wf {a : Int} (h : (Lit.int .i64 a).wf = true) : -9223372036854775808 ≤ a ∧ a ≤ 9223372036854775807 := wf64 h
theorem flat_drop {m : Nat} : ∀ {l : List S59} (i : Nat), (∀ g ∈ l, fit59 g (m : Int) = true) → (flat59 l).drop (i * 4 * m) = flat59 (l.drop i)
  | l, 0, _ => by simp
  | [], i + 1, _ => by simp [flat59]
  | g :: l, i + 1, h => by
    have h1 := fit_len (h g (by simp))
    rw [flat59_cons, List.drop_succ_cons, ← flat_drop (l := l) i (fun x hx => h x (by simp [hx]))]
    rw [show (i + 1) * 4 * m = (g.f0 ++ g.f1 ++ g.f2 ++ g.f3).length + i * 4 * m by
      simp only [List.length_append]
      have e : (i + 1) * 4 * m = i * 4 * m + 4 * m := by rw [Nat.add_mul, Nat.add_mul]
      omega]
    rw [← List.drop_drop, List.drop_left]
theorem cut_flat {m : Nat} {l : List S59} {i : Nat} (hi : i < l.length) (h : ∀ g ∈ l, fit59 g (m : Int) = true) : cut59 m (flat59 l) i = l[i] := by
  have hd := flat_drop i h
  rw [List.drop_eq_getElem_cons hi, flat59_cons] at hd
  obtain ⟨h0, h1, h2, h3⟩ := fit_len (h _ (List.getElem_mem hi))
  have e0 : (l[i]).f0.length = m := by omega
  have e1 : (l[i]).f1.length = m := by omega
  have e2 : (l[i]).f2.length = m := by omega
  have e3 : (l[i]).f3.length = m := by omega
  have hq : ∀ q, (flat59 l).drop ((i * 4 + q) * m) = ((l[i]).f0 ++ (l[i]).f1 ++ (l[i]).f2 ++ (l[i]).f3 ++ flat59 (l.drop (i + 1))).drop (q * m) := by
    intro q
    rw [Nat.add_mul, ← List.drop_drop, hd]
  unfold cut59
  have r0 := hq 0
  have r1 := hq 1
  have r2 := hq 2
  have r3 := hq 3
  simp only [Nat.add_zero, Nat.zero_mul, List.drop_zero, Nat.one_mul] at r0 r1 r2 r3
  rw [r0, r1, r2, r3]
  generalize l[i] = g at *
  obtain ⟨g0, g1, g2, g3⟩ := g
  simp only at e0 e1 e2 e3 ⊢
  generalize flat59 (l.drop (i + 1)) = R
  congr 1
  · rw [List.append_assoc, List.append_assoc, List.append_assoc, ← e0, List.take_left]
  · rw [List.append_assoc, List.append_assoc, List.append_assoc, ← e0, List.drop_left, e0, ← e1, List.take_left]
  · rw [show 2 * m = (g0 ++ g1).length by simp; omega, List.append_assoc, List.append_assoc, List.drop_left, ← e2, List.take_left]
  · rw [List.append_assoc (g0 ++ g1 ++ g2) g3 R, show 3 * m = (g0 ++ g1 ++ g2).length by simp; omega, List.drop_left, ← e3, List.take_left]
theorem shape_flat {m : Nat} {l : List S59} (h : ∀ g ∈ l, fit59 g (m : Int) = true) : shape59 l.length m (flat59 l) = l := by
  apply List.ext_getElem
  · simp [shape59]
  · intro i h1 h2
    simp only [shape59, List.getElem_map, List.getElem_range]
    exact cut_flat h2 h
theorem chk_shape {a0 a1 : Int} {l : List S59} {b0 b1 b2 b3 b4 b5 b6 b7 : Int} (h : chkR a0 a1 l b0 b2 (rightB a0 a1 b0 b1 b2 b3 b4 b5 b6 b7) = 0) : shape59 b2.toNat (a0 * b0).toNat (flat59 l) = l ∧ ((flat59 l).length : Int) = b2 * 4 * (a0 * b0) := by
  refine ⟨?_, (chk_small h).2⟩
  obtain ⟨h1, h2, h3⟩ := chkR_zero h
  obtain ⟨_, _, _, h4, h5⟩ := right_bounds h1
  obtain ⟨m, hm⟩ := Int.eq_ofNat_of_zero_le (show 0 ≤ a0 * b0 by omega)
  rw [hm] at h3 ⊢
  rw [← h2, Int.toNat_natCast, Int.toNat_natCast]
  exact shape_flat h3
theorem flat_shape {m : Nat} (l : List Int) : ∀ n : Nat, n * 4 * m ≤ l.length → flat59 (shape59 n m l) = l.take (n * 4 * m)
  | 0, _ => by simp [shape59, flat59]
  | n + 1, h => by
    have e : (n + 1) * 4 * m = n * 4 * m + m + m + m + m := by
      rw [show (n + 1) * 4 = n * 4 + 1 + 1 + 1 + 1 by omega, Nat.succ_mul, Nat.succ_mul, Nat.succ_mul, Nat.succ_mul]
    have ih := flat_shape (m := m) l n (by omega)
    have hs : shape59 (n + 1) m l = shape59 n m l ++ [cut59 m l n] := by simp [shape59, List.range_succ]
    have q1 : (n * 4 + 1) * m = n * 4 * m + m := Nat.succ_mul _ _
    have q2 : (n * 4 + 2) * m = n * 4 * m + m + m := by rw [show n * 4 + 2 = (n * 4 + 1) + 1 from rfl, Nat.succ_mul, q1]
    have q3 : (n * 4 + 3) * m = n * 4 * m + m + m + m := by rw [show n * 4 + 3 = (n * 4 + 2) + 1 from rfl, Nat.succ_mul, q2]
    rw [hs, flat59_app, ih, e]
    simp only [flat59, List.flatMap_cons, List.flatMap_nil, List.append_nil, cut59, q1, q2, q3]
    rw [List.take_add, List.take_add, List.take_add, List.take_add]
    simp only [List.append_assoc]
theorem cut_fit {m n : Nat} {l : List Int} (hl : l.length = n * 4 * m) {g : S59} (hg : g ∈ shape59 n m l) : fit59 g (m : Int) = true := by
  simp only [shape59, List.mem_map, List.mem_range] at hg
  obtain ⟨i, hi, rfl⟩ := hg
  have hle : (i * 4 + 4) * m ≤ n * 4 * m := Nat.mul_le_mul_right _ (by omega)
  have q : ∀ j, j < 4 → m ≤ l.length - (i * 4 + j) * m := by
    intro j hj
    have : (i * 4 + j + 1) * m ≤ (i * 4 + 4) * m := Nat.mul_le_mul_right _ (by omega)
    rw [Nat.succ_mul] at this
    omega
  have q0 := q 0 (by omega)
  have q1 := q 1 (by omega)
  have q2 := q 2 (by omega)
  have q3 := q 3 (by omega)
  simp only [Nat.add_zero] at q0
  simp only [fit59, cut59, List.length_take, List.length_drop, Bool.and_eq_true, decide_eq_true_eq]
  omega
theorem All8_of {l : List S59} (hl : ∀ g ∈ l, Good59 g) : All8 (flat59 l) := by
  intro x hx
  simp only [flat59, List.mem_flatMap, List.mem_append] at hx
  obtain ⟨g, hg, hx⟩ := hx
  obtain ⟨h0, h1, h2, h3⟩ := hl g hg
  have hw : (Lit.int .i8 x).wf = true := by
    rcases hx with ((hx | hx) | hx) | hx
    · exact h0.2 x hx
    · exact h1.2 x hx
    · exact h2.2 x hx
    · exact h3.2 x hx
  exact wf8 hw
theorem nil_bytes : (⟨#[]⟩ : ByteArray).size = 0 := rfl
theorem weightsR_nil {w : List Int} (hw : All8 w) (hl : w.length ≤ 65535) : weightsR (weightsS w) 0 w.length = (w, (⟨#[]⟩ : ByteArray), 0) := by
  have h := weightsR_app hw hl (⟨#[]⟩ : ByteArray)
  rw [show weightsS w ++ (⟨#[]⟩ : ByteArray) = weightsS w from by apply bytesOf_inj; rw [bytesOf_append]; simp [bytesOf]] at h
  exact h
theorem dec_enc {a0 a1 : Int} {l : List S59} {b0 b1 b2 b3 b4 b5 b6 b7 : Int} (h : chkR a0 a1 l b0 b2 (rightB a0 a1 b0 b1 b2 b3 b4 b5 b6 b7) = 0) (hl : ∀ g ∈ l, Good59 g) {c1 c3 c4 c5 c6 c7 : Int} (hr : rightB a0 a1 b0 c1 b2 c3 c4 c5 c6 c7 = true) :
    gDecR (sealR (encBody a0 a1 (flat59 l))) b0 c1 b2 c3 c4 c5 c6 c7 = (a0, a1, l, 0) := by
  obtain ⟨hs1, hs2⟩ := chk_small h
  obtain ⟨hsh, _⟩ := chk_shape h
  obtain ⟨hb0, hb1, _⟩ := right_bounds hr
  have hz : (sealR (encBody a0 a1 (flat59 l))).size ≤ 16384 := by rw [sealR_size, encBody_size]; omega
  have e1 : encBody a0 a1 (flat59 l) = (⟨#[71, 82]⟩ : ByteArray) ++ (twoS a0 ++ (twoS a1 ++ weightsS (flat59 l))) := by
    unfold encBody
    rw [ByteArray.append_assoc, ByteArray.append_assoc]
  have hp : pre2 (encBody a0 a1 (flat59 l)) 71 82 = true := by
    have h1 := ext_app0 (⟨#[71, 82]⟩ : ByteArray) (twoS a0 ++ (twoS a1 ++ weightsS (flat59 l)))
    rw [GR_size, ← e1] at h1
    simp only [pre2, Bool.and_eq_true, decide_eq_true_eq]
    exact ⟨by rw [encBody_size]; omega, h1⟩
  have hx : (encBody a0 a1 (flat59 l)).extract 2 (encBody a0 a1 (flat59 l)).size = twoS a0 ++ (twoS a1 ++ weightsS (flat59 l)) := by
    have h1 := ext_app (⟨#[71, 82]⟩ : ByteArray) (twoS a0 ++ (twoS a1 ++ weightsS (flat59 l)))
    rw [GR_size, ← e1] at h1
    exact h1
  unfold gDecR
  rw [open_seal, if_pos ⟨hz, rfl, hp⟩]
  show gDec2 ((encBody a0 a1 (flat59 l)).extract 2 (encBody a0 a1 (flat59 l)).size) b0 c1 b2 c3 c4 c5 c6 c7 = _
  rw [hx]
  unfold gDec2
  have m0 : a0 % 65536 = a0 := by omega
  have m1 : a1 % 65536 = a1 := by omega
  simp only [twoR_app, m0, m1]
  rw [if_pos hr, ← hs2, weightsR_nil (All8_of hl) (by omega)]
  simp only [hsh, endR, nil_bytes, if_true]
theorem open_inv {s : ByteArray} (h : (openR s).2 = 0) : s = sealR (openR s).1 := by
  unfold openR at h ⊢
  split at h
  · simp at h
  · rename_i c
    rw [if_neg c]
    split at h
    · rename_i c2
      rw [if_pos c2]
      unfold sealR
      show s = s.extract 0 (s.size - 2) ++ twoS (sumR (s.extract 0 (s.size - 2)))
      rw [← c2, cut_bytes (by omega)]
    · simp at h
theorem two_byte {s : ByteArray} (h : 2 ≤ s.size) : twoS (bt s 0 + bt s 1 * 256) = s.extract 0 2 := by
  have h0 := bt_range s 0
  have h1 := bt_range s 1
  apply bytesOf_inj
  rw [twoS_bytes, bytesOf_extract, List.drop_zero]
  have hl := bytesOf_length s
  have e0 : (bytesOf s)[0]? = some (bt s 0) := by
    rw [bytesOf, List.getElem?_map, List.getElem?_eq_getElem (by rw [data_length]; omega)]
    simp only [Option.map_some, bt]
    rw [dif_pos (show (0 : Int).toNat < s.size by simp; omega)]
    rfl
  have e1 : (bytesOf s)[1]? = some (bt s 1) := by
    rw [bytesOf, List.getElem?_map, List.getElem?_eq_getElem (by rw [data_length]; omega)]
    simp only [Option.map_some, bt]
    rw [dif_pos (show (1 : Int).toNat < s.size by simp; omega)]
    rfl
  apply List.ext_getElem?
  intro i
  rw [List.getElem?_take]
  rcases i with _ | _ | i
  · rw [if_pos (by omega), e0]; simp; omega
  · rw [if_pos (by omega), show 0 + 1 = 1 from rfl, e1]; simp; omega
  · rw [if_neg (by omega)]; simp
theorem twoR_inv {s : ByteArray} (h : (twoR s 0).2.2 = 0) : s = twoS (twoR s 0).1 ++ (twoR s 0).2.1 := by
  unfold twoR at h ⊢
  rw [if_pos rfl] at h ⊢
  split at h
  · simp at h
  · rename_i c
    rw [if_neg c]
    show s = twoS (bt s 0 + bt s 1 * 256) ++ s.extract 2 s.size
    rw [two_byte (by omega), cut_bytes (by omega)]
theorem i8s_bytes {s : ByteArray} {n : Nat} (h : n ≤ s.size) : strOfNums ((i8s s n).map fun x => x % 256) = s.extract 0 n := by
  have e : ∀ x : Int, 0 ≤ x → x ≤ 255 → IntKind.i8.wrap x % 256 = x := by
    intro x h0 h1
    simp [IntKind.wrap, IntKind.bits, IntKind.signed]
    split <;> omega
  have hm : (i8s s n).map (fun x => x % 256) = (bytesOf s).take n := by
    apply List.ext_getElem?
    intro i
    rw [List.getElem?_take, List.getElem?_map]
    by_cases hi : i < n
    · rw [if_pos hi, i8s, List.getElem?_map, List.getElem?_range hi]
      have e0 : (bytesOf s)[i]? = some (bt s (i : Int)) := by
        rw [bytesOf, List.getElem?_map, List.getElem?_eq_getElem (by rw [data_length]; omega)]
        simp only [Option.map_some, bt]
        rw [dif_pos (show (i : Int).toNat < s.size by simp; omega)]
        rfl
      rw [e0]
      have hb := bt_range s (i : Int)
      simp only [Option.map_some]
      rw [e _ hb.1 hb.2]
    · rw [if_neg hi, i8s, List.getElem?_map, List.getElem?_eq_none (by simp; omega)]
      rfl
  rw [hm]
  apply bytesOf_inj
  rw [bytesOf_strOfNums (fun x hx => bytesOf_range x (List.mem_of_mem_take hx)), bytesOf_extract, List.drop_zero]
theorem weightsR_inv {s : ByteArray} {n : Int} (hn : 0 ≤ n) (hn2 : n ≤ 65535) (h : (weightsR s 0 n).2.2 = 0) : s = weightsS (weightsR s 0 n).1 ++ (weightsR s 0 n).2.1 := by
  have h1 : (twoR s 0).2.2 = 0 := by
    unfold weightsR at h
    split at h
    · assumption
    · exact h
  have h2 := twoR_inv h1
  unfold weightsR at h ⊢
  rw [if_pos h1] at h ⊢
  split at h
  · rename_i c
    rw [if_pos c]
    split at h
    · simp at h
    · rename_i c3
      rw [if_neg c3]
      show s = weightsS (i8s (twoR s 0).2.1 n.toNat) ++ (twoR s 0).2.1.extract n.toNat (twoR s 0).2.1.size
      have hle : n.toNat ≤ (twoR s 0).2.1.size := by omega
      unfold weightsS
      rw [i8s_len, show min n.toNat 65535 = n.toNat by omega, List.take_of_length_le (by rw [i8s_len]; omega), i8s_bytes hle, ByteArray.append_assoc, cut_bytes hle, Int.toNat_of_nonneg hn, ← c]
      exact h2
  · simp at h
theorem enc_dec {s : ByteArray} {b0 b1 b2 b3 b4 b5 b6 b7 : Int} : (gDecR s b0 b1 b2 b3 b4 b5 b6 b7 = gBad) ∨ (∃ a0 a1 l, gDecR s b0 b1 b2 b3 b4 b5 b6 b7 = (a0, a1, l, 0) ∧ chkR a0 a1 l b0 b2 (rightB a0 a1 b0 b1 b2 b3 b4 b5 b6 b7) = 0 ∧ sealR (encBody a0 a1 (flat59 l)) = s) := by
  unfold gDecR
  by_cases hc : s.size ≤ 16384 ∧ (openR s).2 = 0 ∧ pre2 (openR s).1 71 82 = true
  · rw [if_pos hc]
    obtain ⟨h1, h2, h3⟩ := hc
    have hs := open_inv h2
    generalize (openR s).1 = t at *
    simp only [pre2, Bool.and_eq_true, decide_eq_true_eq] at h3
    obtain ⟨h4, h5⟩ := h3
    have ht : t = (⟨#[71, 82]⟩ : ByteArray) ++ t.extract 2 t.size := by rw [← h5, cut_bytes h4]
    generalize t.extract 2 t.size = u at *
    unfold gDec2
    simp only
    by_cases hr : rightB (twoR u 0).1 (twoR (twoR u 0).2.1 (twoR u 0).2.2).1 b0 b1 b2 b3 b4 b5 b6 b7 = true
    · rw [if_pos hr]
      obtain ⟨hr1, _, hr3, hr4, hr5⟩ := right_bounds hr
      obtain ⟨_, hw0⟩ := wrap_three hr4 hr1 hr3
      have hw1 : b2 * 4 * ((twoR u 0).1 * b0) ≤ 65535 := by
        obtain hb | hb : b2 = 1 ∨ b2 = 2 := by omega
        all_goals rw [hb]; omega
      by_cases hE : endR (weightsR (twoR (twoR u 0).2.1 (twoR u 0).2.2).2.1 (twoR (twoR u 0).2.1 (twoR u 0).2.2).2.2 (b2 * 4 * ((twoR u 0).1 * b0))).2.1 (weightsR (twoR (twoR u 0).2.1 (twoR u 0).2.2).2.1 (twoR (twoR u 0).2.1 (twoR u 0).2.2).2.2 (b2 * 4 * ((twoR u 0).1 * b0))).2.2 = 0
      · rw [if_pos hE]
        right
        have z1 := endR_zero hE
        have p0 : (twoR (twoR u 0).2.1 (twoR u 0).2.2).2.2 = 0 := by
          by_cases c : (twoR (twoR u 0).2.1 (twoR u 0).2.2).2.2 = 0
          · exact c
          · rw [weightsR_bad c] at z1; exact absurd z1 c
        have q0 : (twoR u 0).2.2 = 0 := by
          by_cases c : (twoR u 0).2.2 = 0
          · exact c
          · rw [twoR_bad c] at p0; exact absurd p0 c
        have i1 := twoR_inv q0
        rw [q0] at hr p0 z1 hE ⊢
        have i2 := twoR_inv p0
        rw [p0] at z1 hE ⊢
        have i3 := weightsR_inv hw0 hw1 z1
        have hlen := weightsR_ok hw0 z1
        have hnil : (weightsR (twoR (twoR u 0).2.1 0).2.1 0 (b2 * 4 * ((twoR u 0).1 * b0))).2.1 = (⟨#[]⟩ : ByteArray) := by
          unfold endR at hE
          rw [if_pos z1] at hE
          split at hE
          · rename_i c
            apply bytesOf_inj
            have : (bytesOf (weightsR (twoR (twoR u 0).2.1 0).2.1 0 (b2 * 4 * ((twoR u 0).1 * b0))).2.1).length = 0 := by rw [bytesOf_length]; exact c
            rw [List.eq_nil_of_length_eq_zero this]
            rfl
          · simp at hE
        rw [hnil] at i3
        generalize (weightsR (twoR (twoR u 0).2.1 0).2.1 0 (b2 * 4 * ((twoR u 0).1 * b0))).1 = w at *
        generalize (twoR (twoR u 0).2.1 0).2.1 = v2 at *
        generalize (twoR (twoR u 0).2.1 0).1 = shift at *
        generalize (twoR u 0).2.1 = v1 at *
        generalize (twoR u 0).1 = rank at *
        obtain ⟨m, hm⟩ := Int.eq_ofNat_of_zero_le (show 0 ≤ rank * b0 by omega)
        obtain ⟨n, hn⟩ := Int.eq_ofNat_of_zero_le (show 0 ≤ b2 by omega)
        have hl2 : w.length = n * 4 * m := by
          rw [hm, hn] at hlen
          have : ((n * 4 * m : Nat) : Int) = (n : Int) * 4 * (m : Int) := by simp
          omega
        refine ⟨rank, shift, shape59 b2.toNat (rank * b0).toNat w, rfl, ?_, ?_⟩
        · unfold chkR
          rw [if_pos hr, hm, hn, Int.toNat_natCast, Int.toNat_natCast, if_pos (by simp [shape59]), if_pos (List.all_eq_true.2 (fun g hg => cut_fit hl2 hg))]
        · rw [hm, hn, Int.toNat_natCast, Int.toNat_natCast, flat_shape w n (by omega), ← hl2, List.take_length]
          unfold encBody
          rw [hs]
          congr 1
          rw [ht, i1, i2, i3]
          apply bytesOf_inj
          simp only [bytesOf_append, List.append_assoc]
          simp [bytesOf]
      · rw [if_neg hE]; exact .inl rfl
    · rw [if_neg hr]; exact .inl rfl
  · rw [if_neg hc]; exact .inl rfl
theorem gworks_eq {k : Nat} (hk : 60 ≤ k) : aviarylaw10_works.f k = some true :=
  at_rounds aviarylaw10_works.mono hk (by decide +kernel)

theorem own_small {a0 a1 : Int} {l : List S59} (hz : ¬ (l.length : Int) > 20) (hl : ∀ g ∈ l, Good59 g) : aviarylaw10_Own.f a0 a1 l = some (a0, a1, l) := by
  unfold aviarylaw10_Own.f
  rw [if_pos ⟨by omega, fun g hg => Good59.small (hl g hg)⟩]
theorem enc_body_size {a0 a1 : Int} {l : List S59} {b0 b1 b2 b3 b4 b5 b6 b7 : Int} (h : chkR a0 a1 l b0 b2 (rightB a0 a1 b0 b1 b2 b3 b4 b5 b6 b7) = 0) : (sealR (encBody a0 a1 (flat59 l))).size ≤ 300 := by
  have := (chk_small h).1
  rw [sealR_size, encBody_size]
  omega
theorem back_j1 {k : Nat} (s : ByteArray) (b0 b1 b2 b3 b4 b5 b6 b7 : Int) (hs : s.size ≤ 140737488351232) (hk : 140000 + s.size < k) : aviarylaw10_GraftBack.j1 (k + 4 + 1) s b0 b1 b2 b3 b4 b5 b6 b7 = some true := by
  have hd := Decode_eq (k := k) s b0 b1 b2 b3 b4 b5 b6 b7 (by omega) (by omega)
  have he : ∀ a0 a1 l, graft_Encode.f (k + 4) a0 a1 l b0 b1 b2 b3 b4 b5 b6 b7 = some (encR a0 a1 l (chkR a0 a1 l b0 b2 (rightB a0 a1 b0 b1 b2 b3 b4 b5 b6 b7))) := fun a0 a1 l => Encode_eq (k := k + 1) a0 a1 l b0 b1 b2 b3 b4 b5 b6 b7 (by omega)
  simp only [aviarylaw10_GraftBack.j1, hd, Option.bind_some]
  rcases enc_dec (s := s) (b0 := b0) (b1 := b1) (b2 := b2) (b3 := b3) (b4 := b4) (b5 := b5) (b6 := b6) (b7 := b7) with h | ⟨a0, a1, l, h, hc, hq⟩
  · rw [h]
    simp [gBad]
  · rw [h]
    simp only [if_true, he, Option.bind_some, hc, encR, hq]
    simp
theorem back_j0 {k : Nat} (a0 a1 : Int) (l : List S59) (b0 b1 b2 b3 b4 b5 b6 b7 : Int) (s : ByteArray) (hz : ¬ (l.length : Int) > 20) (hl : ∀ g ∈ l, Good59 g) (hs : s.size ≤ 140737488351232) (hk : 140000 + s.size < k) : aviarylaw10_GraftBack.j0 (k + 4 + 1 + 1) s false a0 a1 l b0 b1 b2 b3 b4 b5 b6 b7 = some true := by
  have he : graft_Encode.f (k + 4 + 1) a0 a1 l b0 b1 b2 b3 b4 b5 b6 b7 = some (encR a0 a1 l (chkR a0 a1 l b0 b2 (rightB a0 a1 b0 b1 b2 b3 b4 b5 b6 b7))) := Encode_eq (k := k + 2) a0 a1 l b0 b1 b2 b3 b4 b5 b6 b7 (by omega)
  have hf : graft_Flat.f (k + 4 + 1) a0 a1 l b0 b1 b2 b3 b4 b5 b6 b7 = some (if chkR a0 a1 l b0 b2 (rightB a0 a1 b0 b1 b2 b3 b4 b5 b6 b7) = 0 then flat59 l else []) := Flat_eq (k + 2) a0 a1 l b0 b1 b2 b3 b4 b5 b6 b7
  have hsh : ∀ q, graft_Shape.f (k + 4 + 1) a0 a1 b0 b1 b2 b3 b4 b5 b6 b7 q = some (shapeR a0 a1 b0 b2 (rightB a0 a1 b0 b1 b2 b3 b4 b5 b6 b7) q) := fun q => Shape_eq (k + 2) a0 a1 b0 b1 b2 b3 b4 b5 b6 b7 q
  have hj := back_j1 (k := k) s b0 b1 b2 b3 b4 b5 b6 b7 hs hk
  simp only [aviarylaw10_GraftBack.j0, Bool.false_eq_true, if_false, own_small hz hl, Option.bind_some, he, hf, hsh, hj]
  by_cases hc : chkR a0 a1 l b0 b2 (rightB a0 a1 b0 b1 b2 b3 b4 b5 b6 b7) = 0
  · obtain ⟨hr, _, _⟩ := chkR_zero hc
    obtain ⟨h1, h2⟩ := chk_shape hc
    have hd : graft_Decode.f (k + 4 + 1) (sealR (encBody a0 a1 (flat59 l))) b0 b1 b2 b3 b4 b5 b6 b7 = some (a0, a1, l, 0) := by
      rw [← dec_enc hc hl hr]
      exact Decode_eq (k := k + 1) _ b0 b1 b2 b3 b4 b5 b6 b7 (Nat.le_trans (enc_body_size hc) (by omega)) (by have := enc_body_size hc; omega)
    have hS : shapeR a0 a1 b0 b2 (rightB a0 a1 b0 b1 b2 b3 b4 b5 b6 b7) (flat59 l) = (a0, a1, l, 0) := by
      unfold shapeR
      rw [if_pos hr, if_pos h2, h1]
    rw [hc]
    simp only [encR, if_true, hd, hS, Option.bind_some, gSame_true]
  · simp only [encR, if_neg hc]
theorem GraftBack (a0 a1 : Int) (l : List S59) (b0 b1 b2 b3 b4 b5 b6 b7 : Int) (s : ByteArray) (h0 : (Lit.int .i64 a0).wf = true) (h1 : (Lit.int .i64 a1).wf = true) (hlen : l.length * 96 ≤ reachBytes) (hl : ∀ g ∈ l, Good59 g) (hs : s.size ≤ 140737488351232) :
    ∃ k, aviarylaw10_GraftBack.f k a0 a1 l b0 b1 b2 b3 b4 b5 b6 b7 s = some true := by
  refine ⟨140001 + s.size + 4 + 1 + 1, ?_⟩
  have hT : aviarylaw10_GraftBack.j0 (140001 + s.size + 4 + 1 + 1) s true a0 a1 l b0 b1 b2 b3 b4 b5 b6 b7 = some true := by simp [aviarylaw10_GraftBack.j0]
  unfold aviarylaw10_GraftBack.f
  rw [gworks_eq (by omega), Option.bind_some, if_pos rfl]
  by_cases hz : (l.length : Int) > 20
  · rw [if_pos hz, hT]
  · rw [if_neg hz]
    by_cases hy : (s.size : Int) > 40000
    · rw [decide_eq_true hy, hT]
    · rw [decide_eq_false hy]
      exact back_j0 a0 a1 l b0 b1 b2 b3 b4 b5 b6 b7 s hz hl hs (by omega)

end Go.Proofs.Ytekaiebfgcjddaa.Pure
