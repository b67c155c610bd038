/- Of any adapter, for any configuration, the program and the reference tell alike what is wrong with it, its weights and its bytes. No condition. -/
import Derived.Test.YtekaiebfgcjddaaPGraftChecksx9
import Derived.Test.YtekaiebfgcjddaaMSat
import Derived.Test.YtekaiebfgcjddaaMVec
import Derived.Test.YtekaiebfgcjddaaMBytes
set_option linter.unusedVariables false
set_option linter.unusedSimpArgs false
namespace Go.Proofs.Ytekaiebfgcjddaa.Pure
open Go Go.RowKit Go.Proofs.Ytekaiebfgcjddaa.PGraftChecks Go.Proofs.YtekaiebfgcjddaaW.PrintWords Go.Proofs.YtekaiebfgcjddaaW.PrintLast Go.Proofs.Ytekaiebfgcjddaa.Mth
def wB (n l h : Int) : Bool := decide (l ≤ n) && decide (n ≤ h)
def restB (a2 a3 a4 a7 : Int) : Bool := wB a2 1 2 && (wB a3 2 16 && (wB a4 1 8 && wB a7 0 16))
def mixB (a5 a6 : Int) : Bool := (decide (a5 = 0) && decide (a6 = 0)) || (wB a5 2 4 && wB a6 1 a5)
def headB (a0 a1 : Int) : Bool := wB a0 2 8 && (wB a1 1 a0 && (decide (Int.tdiv a0 a1 * a1 = a0) && decide (Int.tmod (Int.tdiv a0 a1) 2 = 0)))
def cfgB (a0 a1 a2 a3 a4 a5 a6 a7 : Int) : Bool := headB a0 a1 && (mixB a5 a6 && restB a2 a3 a4 a7)
theorem within_eq (n l h : Int) : ckpt_within.f n l h = some (wB n l h) := by
  unfold ckpt_within.f wB
  by_cases hh : l ≤ n
  · rw [if_pos hh]; simp [hh]
  · rw [if_neg hh]; simp [hh]
theorem j2_eq (k : Nat) (x : Bool) (a0 a1 a2 a3 a4 a5 a6 a7 : Int) : ckpt_Config.j2 (k + 1) x a0 a1 a2 a3 a4 a5 a6 a7 = some (x && restB a2 a3 a4 a7) := by
  simp only [ckpt_Config.j2, within_eq, Option.bind_some, restB]
  cases x <;> cases wB a2 1 2 <;> cases wB a3 2 16 <;> cases wB a4 1 8 <;> cases wB a7 0 16 <;> rfl
theorem j1_eq (k : Nat) (x : Bool) (a0 a1 a2 a3 a4 a5 a6 a7 : Int) : ckpt_Config.j1 (k + 2) x a0 a1 a2 a3 a4 a5 a6 a7 = some (!x && (mixB a5 a6 && restB a2 a3 a4 a7)) := by
  simp only [ckpt_Config.j1, within_eq, Option.bind_some, j2_eq, mixB]
  by_cases h5 : a5 = 0
  · by_cases h6 : a6 = 0
    · cases x <;> simp [h5, h6]
    · cases x <;> cases wB a5 2 4 <;> cases wB a6 1 a5 <;> cases restB a2 a3 a4 a7 <;> simp [h6]
  · cases x <;> cases wB a5 2 4 <;> cases wB a6 1 a5 <;> cases restB a2 a3 a4 a7 <;> simp [h5]
theorem fin_ (a0 a1 : Int) (h1 : 2 ≤ a0) (h2 : a0 ≤ 8) (h3 : 1 ≤ a1) (h4 : a1 ≤ a0) : wrap64 (Int.tdiv a0 a1) = Int.tdiv a0 a1 ∧ wrap64 (Int.tdiv a0 a1 * a1) = Int.tdiv a0 a1 * a1 ∧
    (decide (Int.tdiv a0 a1 * a1 = a0) && decide (Int.tmod (Int.tdiv a0 a1) 2 = 0)) = (decide (Int.tmod a0 2 = 0) && (wB a1 1 4 && (decide (Int.tmod a0 a1 = 0) && decide (Int.tmod (Int.tdiv a0 a1) 2 = 0)))) := by
  obtain rfl | rfl | rfl | rfl | rfl | rfl | rfl : a0 = 2 ∨ a0 = 3 ∨ a0 = 4 ∨ a0 = 5 ∨ a0 = 6 ∨ a0 = 7 ∨ a0 = 8 := by omega
  all_goals
    obtain rfl | rfl | rfl | rfl | rfl | rfl | rfl | rfl : a1 = 1 ∨ a1 = 2 ∨ a1 = 3 ∨ a1 = 4 ∨ a1 = 5 ∨ a1 = 6 ∨ a1 = 7 ∨ a1 = 8 := by omega
    all_goals first | (exfalso; omega) | (decide +kernel)
theorem Config_eq (k : Nat) (a0 a1 a2 a3 a4 a5 a6 a7 : Int) : ckpt_Config.f (k + 3) a0 a1 a2 a3 a4 a5 a6 a7 = some (cfgB a0 a1 a2 a3 a4 a5 a6 a7) := by
  simp only [ckpt_Config.f, within_eq, Option.bind_some, ckpt_Config.j0, j1_eq]
  unfold cfgB headB
  cases e0 : wB a0 2 8 with
  | false => simp
  | true =>
    cases e1 : wB a1 1 a0 with
    | false => simp
    | true =>
      have b0 := e0
      have b1 := e1
      simp only [wB, Bool.and_eq_true, decide_eq_true_eq] at b0 b1
      obtain ⟨f1, f2, _⟩ := fin_ a0 a1 b0.1 b0.2 b1.1 b1.2
      rw [f1, f2]
      have hne : a1 ≠ 0 := by omega
      by_cases c : Int.tdiv a0 a1 * a1 = a0
      · by_cases c2 : Int.tmod (Int.tdiv a0 a1) 2 = 0 <;> simp [c, c2, hne]
      · simp [c, hne]
theorem in_eq (n l h : Int) : aviaryref09_in.f n l h = some (wB n l h) := by
  unfold aviaryref09_in.f wB
  by_cases hh : l ≤ n
  · rw [if_pos hh]; simp [hh]
  · rw [if_neg hh]; simp [hh]
theorem rj1_eq (k : Nat) (x : Bool) (a0 a1 a2 a3 a4 a5 a6 a7 : Int) : aviaryref09_Config.j1 (k + 1) x a0 a1 a2 a3 a4 a5 a6 a7 = some (x && restB a2 a3 a4 a7) := by
  simp only [aviaryref09_Config.j1, in_eq, Option.bind_some, restB]
  cases x <;> cases wB a2 1 2 <;> cases wB a3 2 16 <;> cases wB a4 1 8 <;> cases wB a7 0 16 <;> rfl
theorem rj0_eq (k : Nat) (x : Bool) (a0 a1 a2 a3 a4 a5 a6 a7 : Int) : aviaryref09_Config.j0 (k + 2) x a0 a1 a2 a3 a4 a5 a6 a7 = some (!x && (mixB a5 a6 && restB a2 a3 a4 a7)) := by
  simp only [aviaryref09_Config.j0, in_eq, Option.bind_some, rj1_eq, mixB]
  by_cases h5 : a5 = 0
  · by_cases h6 : a6 = 0
    · cases x <;> simp [h5, h6]
    · cases x <;> cases wB a5 2 4 <;> cases wB a6 1 a5 <;> cases restB a2 a3 a4 a7 <;> simp [h6]
  · cases x <;> cases wB a5 2 4 <;> cases wB a6 1 a5 <;> cases restB a2 a3 a4 a7 <;> simp [h5]
theorem rConfig_eq (k : Nat) (a0 a1 a2 a3 a4 a5 a6 a7 : Int) : aviaryref09_Config.f (k + 3) a0 a1 a2 a3 a4 a5 a6 a7 = some (cfgB a0 a1 a2 a3 a4 a5 a6 a7) := by
  simp only [aviaryref09_Config.f, in_eq, Option.bind_some, rj0_eq]
  unfold cfgB headB
  cases e0 : wB a0 2 8 with
  | false => simp
  | true =>
    have b0 := e0
    simp only [wB, Bool.and_eq_true, decide_eq_true_eq] at b0
    cases e4 : wB a1 1 4 with
    | false =>
      cases e1 : wB a1 1 a0 with
      | false => by_cases c : Int.tmod a0 2 = 0 <;> simp [c]
      | true =>
        have b1 := e1
        simp only [wB, Bool.and_eq_true, decide_eq_true_eq] at b1
        obtain ⟨_, _, f3⟩ := fin_ a0 a1 b0.1 b0.2 b1.1 b1.2
        rw [f3, e4]
        by_cases c : Int.tmod a0 2 = 0 <;> simp [c]
    | true =>
      have b4 := e4
      simp only [wB, Bool.and_eq_true, decide_eq_true_eq] at b4
      have hne : a1 ≠ 0 := by omega
      cases e1 : wB a1 1 a0 with
      | false =>
        have g : a0 < a1 := by
          simp only [wB, Bool.and_eq_false_iff, decide_eq_false_iff_not] at e1
          omega
        have g2 : Int.tmod a0 a1 ≠ 0 := by
          rw [Int.tmod_eq_of_lt (by omega) g]
          omega
        by_cases c : Int.tmod a0 2 = 0 <;> simp [c, g2, hne]
      | true =>
        have b1 := e1
        simp only [wB, Bool.and_eq_true, decide_eq_true_eq] at b1
        obtain ⟨f1, _, f3⟩ := fin_ a0 a1 b0.1 b0.2 b1.1 b1.2
        rw [f3, f1, e4]
        by_cases c : Int.tmod a0 2 = 0
        · by_cases c2 : Int.tmod a0 a1 = 0
          · by_cases c3 : Int.tmod (Int.tdiv a0 a1) 2 = 0 <;> simp [c, c2, c3, hne]
          · simp [c, c2, hne]
        · simp [c]
theorem cfg_bounds {a0 a1 a2 a3 a4 a5 a6 a7 : Int} (h : cfgB a0 a1 a2 a3 a4 a5 a6 a7 = true) : (2 ≤ a0 ∧ a0 ≤ 8) ∧ (1 ≤ a1 ∧ a1 ≤ 8) ∧ (1 ≤ a2 ∧ a2 ≤ 2) ∧ (2 ≤ a3 ∧ a3 ≤ 16) ∧ (1 ≤ a4 ∧ a4 ≤ 8) ∧ (0 ≤ a5 ∧ a5 ≤ 4) ∧ (0 ≤ a6 ∧ a6 ≤ 4) ∧ (0 ≤ a7 ∧ a7 ≤ 16) := by
  simp only [cfgB, headB, mixB, restB, wB, Bool.and_eq_true, Bool.or_eq_true, decide_eq_true_eq] at h
  omega
theorem bSame_l0 {a b : List Int} (hl : a.length = b.length) (hb : a.length ≤ 4611686018427387904) (d : Nat) : ∀ (k : Nat) (i : Int), 0 ≤ i → (a.length : Int) - i = d → d < k →
    aviaryref08_Same.l0 k a b i = some (decide (a.drop i.toNat = b.drop i.toNat)) := by
  induction d with
  | zero =>
    intro k i h0 hd hk
    obtain ⟨k, rfl⟩ : ∃ m, k = m + 1 := ⟨k - 1, by omega⟩
    simp only [aviaryref08_Same.l0]
    rw [if_neg (by omega), drop_len (by omega), drop_len (by omega)]
    simp
  | succ d ih =>
    intro k i h0 hd hk
    obtain ⟨k, rfl⟩ : ∃ m, k = m + 1 := ⟨k - 1, by omega⟩
    simp only [aviaryref08_Same.l0]
    rw [if_pos (by omega), if_pos h0, if_pos (by omega), drop_rd (l := a) h0 (by omega), drop_rd (l := b) h0 (by omega)]
    by_cases c : rd a i = rd b i
    · rw [if_pos c, wrap64_id (x := i + 1) (by omega) (by omega), ih k (i + 1) (by omega) (by omega) (by omega), c]
      simp
    · rw [if_neg c]
      simp [c]
theorem bSame_eq {k : Nat} {a b : List Int} (hb : a.length ≤ 4611686018427387904) (hk : a.length < k) : aviaryref08_Same.f k a b = some (decide (a = b)) := by
  unfold aviaryref08_Same.f
  by_cases c : a.length = b.length
  · rw [if_pos (by omega), bSame_l0 c hb a.length k 0 (by omega) (by omega) hk]
    rfl
  · rw [if_neg (by omega)]
    have : a ≠ b := fun h => c (by rw [h])
    simp [this]
theorem Sum_l0 {L : List Int} (hr : ∀ x ∈ L, 0 ≤ x ∧ x ≤ 255) (hb : L.length ≤ 4611686018427387904) (d : Nat) : ∀ (k : Nat) (a b i : Int), 0 ≤ i → (L.length : Int) - i = d → d < k → 0 ≤ a → a ≤ 254 → 0 ≤ b → b ≤ 254 →
    bytes_Sum.l0 k L a b i = some (sumL (L.drop i.toNat) a b) := by
  induction d with
  | zero =>
    intro k a b i h0 hd hk ha0 ha1 hb0 hb1
    obtain ⟨k, rfl⟩ : ∃ m, k = m + 1 := ⟨k - 1, by omega⟩
    simp only [bytes_Sum.l0]
    rw [if_neg (by omega), drop_len (by omega), wrap64_id (x := 256 * b) (by omega) (by omega), wrap64_id (by omega) (by omega)]
    rfl
  | succ d ih =>
    intro k a b i h0 hd hk ha0 ha1 hb0 hb1
    obtain ⟨k, rfl⟩ : ∃ m, k = m + 1 := ⟨k - 1, by omega⟩
    have hc := hr _ (rd_mem (l := L) h0 (by omega))
    simp only [bytes_Sum.l0]
    rw [if_pos (by omega), if_pos h0, wrap64_id (x := rd L i) (by omega) (by omega), wrap64_id (x := a + rd L i) (by omega) (by omega), Int.tmod_eq_emod_of_nonneg (a := a + rd L i) (by omega), wrap64_id (x := b + (a + rd L i) % 255) (by omega) (by omega), Int.tmod_eq_emod_of_nonneg (by omega), wrap64_id (x := i + 1) (by omega) (by omega), drop_rd (l := L) h0 (by omega)]
    exact ih k _ _ (i + 1) (by omega) (by omega) (by omega) (by omega) (by omega) (by omega) (by omega)
theorem Sum_eq {k : Nat} {s : ByteArray} (hb : s.size ≤ 4611686018427387904) (hk : s.size < k) : bytes_Sum.f k s = some (sumR s) := by
  unfold bytes_Sum.f
  rw [if_pos hb]
  exact Sum_l0 bytesOf_range (by rw [bytesOf_length]; exact hb) s.size k 0 0 0 (by omega) (by rw [bytesOf_length]; omega) hk (by omega) (by omega) (by omega) (by omega)
theorem bTwo_eq (n : Int) : bytes_Two.f n = some (twoS n) := rfl
theorem Seal_eq {k : Nat} {s : ByteArray} (hb : s.size ≤ 4611686018427387904) (hk : s.size < k) : bytes_Seal.f k s = some (sealR s) := by
  unfold bytes_Seal.f
  rw [Sum_eq hb hk]
  simp only [Option.bind_some, bTwo_eq]
  rw [twoS_size, if_pos (by omega)]
  rfl
theorem rTwo8_eq {a : Int} (h0 : -9223372036854775808 ≤ a) (h1 : a ≤ 9223372036854775807) : aviaryref08_Two.f a = some (twoS a) := by
  unfold aviaryref08_Two.f twoS
  have hs := tdiv_split a 65536 (by decide)
  have b0 := Int.lt_tmod_of_pos a (b := 65536) (by decide)
  have b1 := Int.tmod_lt_of_pos a (b := 65536) (by decide)
  generalize Int.tmod a 65536 = t at hs b0 b1
  generalize Int.tdiv a 65536 = q at hs
  have e1 : wrap64 (t + 65536) = t + 65536 := wrap64_id (by omega) (by omega)
  have e2 : Int.tmod (t + 65536) 65536 = a % 65536 := by rw [Int.tmod_eq_emod_of_nonneg (by omega)]; omega
  rw [e1, e2, Int.tmod_eq_emod_of_nonneg (by omega), Int.tdiv_eq_ediv_of_nonneg (by omega), wrap64_id (by omega) (by omega)]
  have e3 : a % 65536 % 256 % 256 = a % 256 := by omega
  have e4 : a % 65536 / 256 % 256 = a / 256 % 256 := by omega
  rw [e3, e4]
theorem rSum_l0 {s : ByteArray} (hb : s.size ≤ 4611686018427387904) (d : Nat) : ∀ (k : Nat) (a b i : Int), 0 ≤ i → (s.size : Int) - i = d → d < k → 0 ≤ a → a ≤ 254 → 0 ≤ b → b ≤ 254 →
    aviaryref08_Sum.l0 k s a b i = some (sumL ((bytesOf s).drop i.toNat) a b) := by
  have hL := bytesOf_length s
  induction d with
  | zero =>
    intro k a b i h0 hd hk ha0 ha1 hb0 hb1
    obtain ⟨k, rfl⟩ : ∃ m, k = m + 1 := ⟨k - 1, by omega⟩
    simp only [aviaryref08_Sum.l0]
    rw [if_neg (by omega), drop_len (by omega), wrap64_id (x := 256 * b) (by omega) (by omega), wrap64_id (by omega) (by omega)]
    rfl
  | succ d ih =>
    intro k a b i h0 hd hk ha0 ha1 hb0 hb1
    obtain ⟨k, rfl⟩ : ∃ m, k = m + 1 := ⟨k - 1, by omega⟩
    have hc := bt_range s i
    simp only [aviaryref08_Sum.l0]
    rw [if_pos (by omega), if_pos h0, wrap64_id (x := bt s i) (by omega) (by omega), wrap64_id (x := a + bt s i) (by omega) (by omega), Int.tmod_eq_emod_of_nonneg (a := a + bt s i) (by omega), wrap64_id (x := b + (a + bt s i) % 255) (by omega) (by omega), Int.tmod_eq_emod_of_nonneg (by omega), wrap64_id (x := i + 1) (by omega) (by omega), drop_rd (l := bytesOf s) h0 (by omega), rd_bytesOf]
    exact ih k _ _ (i + 1) (by omega) (by omega) (by omega) (by omega) (by omega) (by omega) (by omega)
theorem rSum_eq {k : Nat} {s : ByteArray} (hb : s.size ≤ 4611686018427387904) (hk : s.size < k) : aviaryref08_Sum.f k s = some (sumR s) := by
  unfold aviaryref08_Sum.f
  exact rSum_l0 hb s.size k 0 0 0 (by omega) (by omega) hk (by omega) (by omega) (by omega) (by omega)
theorem sumL_range : ∀ (l : List Int) (a b : Int), 0 ≤ a → a ≤ 254 → 0 ≤ b → b ≤ 254 → 0 ≤ sumL l a b ∧ sumL l a b ≤ 65278
  | [], a, b, _, _, _, _ => by simp only [sumL]; omega
  | c :: l, a, b, _, _, _, _ => sumL_range l _ _ (by omega) (by omega) (by omega) (by omega)
theorem rSeal_eq {k : Nat} {s : ByteArray} (hb : s.size ≤ 4611686018427387904) (hk : s.size < k) : aviaryref08_Seal.f k s = some (sealR s) := by
  have h := sumL_range (bytesOf s) 0 0 (by omega) (by omega) (by omega) (by omega)
  unfold aviaryref08_Seal.f
  rw [rSum_eq hb hk]
  simp only [Option.bind_some]
  rw [rTwo8_eq (by unfold sumR; omega) (by unfold sumR; omega)]
  simp only [Option.bind_some]
  rw [twoS_size, if_pos (by omega)]
  rfl
theorem wW_l0 {L : List Int} (hb : L.length ≤ 65535) (d : Nat) : ∀ (k : Nat) (o : List Int) (i : Int), 0 ≤ i → (L.length : Int) - i = d → d < k → o.length ≤ 65540 + i →
    bytes_Weights.l0 k o L L.length i = some (strOfNums (o ++ (L.drop i.toNat).map fun x => x % 256)) := by
  induction d with
  | zero =>
    intro k o i h0 hd hk ho
    obtain ⟨k, rfl⟩ : ∃ m, k = m + 1 := ⟨k - 1, by omega⟩
    simp only [bytes_Weights.l0]
    rw [if_neg (by omega), drop_len (by omega)]
    simp
  | succ d ih =>
    intro k o i h0 hd hk ho
    obtain ⟨k, rfl⟩ : ∃ m, k = m + 1 := ⟨k - 1, by omega⟩
    simp only [bytes_Weights.l0]
    rw [if_pos (by omega), if_pos h0, if_pos (by omega), if_pos (by omega), wrap64_id (x := i + 1) (by omega) (by omega), ih k _ (i + 1) (by omega) (by omega) (by omega) (by simp; omega), drop_rd (l := L) h0 (by omega)]
    simp
theorem WeightsS_eq {k : Nat} {l : List Int} (hk : 65535 < k) : bytes_Weights.f k l = some (weightsS l) := by
  have hl : (l.take (min l.length 65535)).length = min l.length 65535 := by rw [List.length_take]; omega
  have hw := wW_l0 (L := l.take (min l.length 65535)) (by omega) (min l.length 65535) k (bytesOf (twoS ((min l.length 65535 : Nat) : Int))) 0 (by omega) (by omega) (by omega) (by rw [bytesOf_length, twoS_size]; omega)
  rw [hl] at hw
  unfold bytes_Weights.f
  rw [bTwo_eq]
  simp only [Option.bind_some]
  rw [twoS_size, if_pos (by omega), hw, strOfNums_append, strOfNums_bytesOf]
  rfl
theorem rwW_l0 {l : List Int} {n : Nat} (hn : n ≤ l.length) (hb : n ≤ 65535) (d : Nat) : ∀ (k : Nat) (i : Int), 0 ≤ i → (n : Int) - i = d → d < k →
    aviaryref08_Weights.l0 k l n (fillI ((l.take n).map fun x => x % 256) i) i = some (twoS n ++ strOfNums ((l.take n).map fun x => x % 256)) := by
  have hL : ((l.take n).map fun x => x % 256).length = n := by rw [List.length_map, List.length_take]; omega
  induction d with
  | zero =>
    intro k i h0 hd hk
    obtain ⟨k, rfl⟩ : ∃ m, k = m + 1 := ⟨k - 1, by omega⟩
    simp only [aviaryref08_Weights.l0]
    rw [if_neg (by omega), fillI_end (by omega), rTwo8_eq (by omega) (by omega)]
    simp only [Option.bind_some]
    have z : (strOfNums ((l.take n).map fun x => x % 256)).size = n := by
      rw [← bytesOf_length, bytesOf_strOfNums, hL]
      intro x hx
      obtain ⟨y, _, rfl⟩ := List.mem_map.1 hx
      omega
    rw [twoS_size, z, if_pos (by omega)]
  | succ d ih =>
    intro k i h0 hd hk
    obtain ⟨k, rfl⟩ : ∃ m, k = m + 1 := ⟨k - 1, by omega⟩
    have e : rd l i % 256 = rd ((l.take n).map fun x => x % 256) i := by
      rw [rd_map (f := fun x => x % 256) h0 (by rw [List.length_take]; omega)]
      unfold rd
      rw [List.getD_eq_getElem?_getD, List.getD_eq_getElem?_getD, List.getElem?_take, if_pos (by omega)]
    simp only [aviaryref08_Weights.l0]
    rw [if_pos (by omega), if_pos h0, if_pos (by omega), if_pos (by rw [fillI_len (by omega)]; omega), e, fillI_set h0 (by omega), wrap64_id (x := i + 1) (by omega) (by omega)]
    exact ih k (i + 1) (by omega) (by omega) (by omega)
theorem rWeightsS_eq {k : Nat} {l : List Int} (hk : 65535 < k) : aviaryref08_Weights.f k l = some (weightsS l) := by
  have hm : mn (l.length : Int) 65535 = ((min l.length 65535 : Nat) : Int) := by unfold mn; split <;> omega
  have hL : ((l.take (min l.length 65535)).map fun x => x % 256).length = min l.length 65535 := by rw [List.length_map, List.length_take]; omega
  have e : List.replicate (((min l.length 65535 : Nat) : Int)).toNat (0 : Int) = fillI ((l.take (min l.length 65535)).map fun x => x % 256) 0 := by rw [fillI_zero, hL]; rfl
  unfold aviaryref08_Weights.f
  rw [hm, if_pos (by omega), if_pos (by omega), e, rwW_l0 (by omega) (by omega) (min l.length 65535) k 0 (by omega) (by omega) (by omega)]
  rfl
def rightB (a0 a1 b0 b1 b2 b3 b4 b5 b6 b7 : Int) : Bool := cfgB b0 b1 b2 b3 b4 b5 b6 b7 && (wB a0 1 4 && wB a1 0 8)
theorem right_eq (k : Nat) (a0 a1 b0 b1 b2 b3 b4 b5 b6 b7 : Int) : graft_right.f (k + 3) a0 a1 b0 b1 b2 b3 b4 b5 b6 b7 = some (rightB a0 a1 b0 b1 b2 b3 b4 b5 b6 b7) := by
  simp only [graft_right.f, Config_eq, Option.bind_some, rightB]
  cases cfgB b0 b1 b2 b3 b4 b5 b6 b7
  · simp
  · simp only [wB, if_true, Bool.true_and]
    by_cases h1 : 1 ≤ a0
    · by_cases h2 : a0 ≤ 4
      · by_cases h3 : 0 ≤ a1
        · simp [h1, h2, h3]
        · simp [h1, h2, h3]
      · simp [h1, h2]
    · simp [h1]
theorem right_bounds {a0 a1 b0 b1 b2 b3 b4 b5 b6 b7 : Int} (h : rightB a0 a1 b0 b1 b2 b3 b4 b5 b6 b7 = true) : (1 ≤ a0 ∧ a0 ≤ 4) ∧ (0 ≤ a1 ∧ a1 ≤ 8) ∧ (2 ≤ b0 ∧ b0 ≤ 8) ∧ (1 ≤ b2 ∧ b2 ≤ 2) ∧ 2 ≤ a0 * b0 ∧ a0 * b0 ≤ 32 := by
  simp only [rightB, Bool.and_eq_true] at h
  have hc := cfg_bounds h.1
  have hw := h.2
  simp only [wB, Bool.and_eq_true, decide_eq_true_eq] at hw
  refine ⟨hw.1, hw.2, hc.1, hc.2.2.1, ?_⟩
  obtain ⟨⟨h1, h2⟩, _⟩ := hw
  obtain ⟨⟨h3, h4⟩, _⟩ := hc
  obtain rfl | rfl | rfl | rfl : a0 = 1 ∨ a0 = 2 ∨ a0 = 3 ∨ a0 = 4 := by omega
  all_goals omega
theorem ranges_eq (k : Nat) (a0 a1 b0 b1 b2 b3 b4 b5 b6 b7 : Int) : aviaryref10_ranges.f (k + 3) a0 a1 b0 b1 b2 b3 b4 b5 b6 b7 = some (rightB a0 a1 b0 b1 b2 b3 b4 b5 b6 b7) := by
  rw [← right_eq k]
  simp only [graft_right.f, aviaryref10_ranges.f, Config_eq, rConfig_eq, Option.bind_some]
theorem gSame_true (l : List S59) (x0 x1 : Int) : aviaryref10_Same.f x0 x1 l x0 x1 l = some true := by
  simp [aviaryref10_Same.f, eqL59_refl]
def chkR (a0 a1 : Int) (l : List S59) (b0 b2 : Int) (right : Bool) : Int := if right = true then (if (l.length : Int) = b2 then (if (l.all fun g => fit59 g (a0 * b0)) = true then 0 else 21) else 21) else 20
theorem mul_wrap {a0 b0 : Int} (h : 2 ≤ a0 * b0 ∧ a0 * b0 ≤ 32) : wrap64 (a0 * b0) = a0 * b0 := by unfold wrap64; omega
theorem Check_eq (k : Nat) (a0 a1 : Int) (l : List S59) (b0 b1 b2 b3 b4 b5 b6 b7 : Int) : graft_Check.f (k + 3) a0 a1 l b0 b1 b2 b3 b4 b5 b6 b7 = some (chkR a0 a1 l b0 b2 (rightB a0 a1 b0 b1 b2 b3 b4 b5 b6 b7)) := by
  simp only [graft_Check.f, right_eq, Option.bind_some, chkR]
  cases e : rightB a0 a1 b0 b1 b2 b3 b4 b5 b6 b7
  · simp
  · obtain ⟨_, _, _, h4, h5⟩ := right_bounds e
    rw [mul_wrap h5]
    simp only [if_true]
    split
    · split <;> rfl
    · rfl
theorem chkR_zero {a0 a1 : Int} {l : List S59} {b0 b1 b2 b3 b4 b5 b6 b7 : Int} (h : chkR a0 a1 l b0 b2 (rightB a0 a1 b0 b1 b2 b3 b4 b5 b6 b7) = 0) : rightB a0 a1 b0 b1 b2 b3 b4 b5 b6 b7 = true ∧ (l.length : Int) = b2 ∧ ∀ g ∈ l, fit59 g (a0 * b0) = true := by
  unfold chkR at h
  cases e : rightB a0 a1 b0 b1 b2 b3 b4 b5 b6 b7
  · rw [e] at h; simp at h
  · rw [e, if_pos rfl] at h
    by_cases h1 : (l.length : Int) = b2
    · rw [if_pos h1] at h
      by_cases h2 : (l.all fun g => fit59 g (a0 * b0)) = true
      · exact ⟨rfl, h1, List.all_eq_true.1 h2⟩
      · rw [if_neg h2] at h; simp at h
    · rw [if_neg h1] at h; simp at h
theorem fit_len {g : S59} {m : Int} (h : fit59 g m = true) : (g.f0.length : Int) = m ∧ (g.f1.length : Int) = m ∧ (g.f2.length : Int) = m ∧ (g.f3.length : Int) = m := by
  simpa [fit59] using h
theorem flat59_cons (g : S59) (l : List S59) : flat59 (g :: l) = g.f0 ++ g.f1 ++ g.f2 ++ g.f3 ++ flat59 l := by simp [flat59]
theorem flat59_app (l m : List S59) : flat59 (l ++ m) = flat59 l ++ flat59 m := by simp [flat59, List.flatMap_append]
theorem flat59_len {m : Nat} : ∀ {l : List S59}, (∀ g ∈ l, fit59 g (m : Int) = true) → (flat59 l).length = l.length * 4 * m
  | [], _ => by simp [flat59]
  | g :: l, h => by
    have h1 := fit_len (h g (by simp))
    have h2 := flat59_len (l := l) (fun x hx => h x (by simp [hx]))
    rw [flat59_cons]
    simp only [List.length_append, List.length_cons, h2]
    have e : (l.length + 1) * 4 * m = l.length * 4 * m + 4 * m := by rw [Nat.add_mul, Nat.add_mul]
    omega
theorem chk_small {a0 a1 : Int} {l : List S59} {b0 b1 b2 b3 b4 b5 b6 b7 : Int} (h : chkR a0 a1 l b0 b2 (rightB a0 a1 b0 b1 b2 b3 b4 b5 b6 b7) = 0) : (flat59 l).length ≤ 256 ∧ ((flat59 l).length : Int) = b2 * 4 * (a0 * b0) := by
  obtain ⟨h1, h2, h3⟩ := chkR_zero h
  obtain ⟨_, _, _, h4, h5⟩ := right_bounds h1
  obtain ⟨m, hm⟩ := Int.eq_ofNat_of_zero_le (show 0 ≤ a0 * b0 by omega)
  rw [hm] at h3 h5 ⊢
  have h6 := flat59_len h3
  have h7 : l.length = 1 ∨ l.length = 2 := by omega
  rcases h7 with h7 | h7 <;> rw [h7] at h6 h2 <;> subst h2 <;> omega
theorem Flat_eq (k : Nat) (a0 a1 : Int) (l : List S59) (b0 b1 b2 b3 b4 b5 b6 b7 : Int) : graft_Flat.f (k + 3) a0 a1 l b0 b1 b2 b3 b4 b5 b6 b7 = some (if chkR a0 a1 l b0 b2 (rightB a0 a1 b0 b1 b2 b3 b4 b5 b6 b7) = 0 then flat59 l else []) := by
  simp only [graft_Flat.f, Check_eq, Option.bind_some]
  by_cases h : chkR a0 a1 l b0 b2 (rightB a0 a1 b0 b1 b2 b3 b4 b5 b6 b7) = 0
  · rw [if_pos h, if_pos h, if_pos (by have := (chk_small h).1; omega)]
  · rw [if_neg h, if_neg h]
/-- What Encode answers. -/
def encBody (a0 a1 : Int) (W : List Int) : ByteArray := (⟨#[71, 82]⟩ : ByteArray) ++ twoS a0 ++ twoS a1 ++ weightsS W
def encR (a0 a1 : Int) (l : List S59) (chk : Int) : ByteArray × Int := if chk = 0 then (sealR (encBody a0 a1 (flat59 l)), 0) else (⟨#[]⟩, chk)
theorem GR_size : (⟨#[71, 82]⟩ : ByteArray).size = 2 := rfl
theorem encBody_size (a0 a1 : Int) (W : List Int) : (encBody a0 a1 W).size = 8 + min W.length 65535 := by
  unfold encBody
  simp only [ByteArray.size_append, twoS_size, weightsS_size, GR_size]
  omega
theorem Encode_eq {k : Nat} (a0 a1 : Int) (l : List S59) (b0 b1 b2 b3 b4 b5 b6 b7 : Int) (hk : 70000 < k) : graft_Encode.f (k + 3) a0 a1 l b0 b1 b2 b3 b4 b5 b6 b7 = some (encR a0 a1 l (chkR a0 a1 l b0 b2 (rightB a0 a1 b0 b1 b2 b3 b4 b5 b6 b7))) := by
  simp only [graft_Encode.f, Check_eq, Flat_eq, Option.bind_some, bTwo_eq, WeightsS_eq (show 65535 < k + 3 by omega), encR]
  by_cases h : chkR a0 a1 l b0 b2 (rightB a0 a1 b0 b1 b2 b3 b4 b5 b6 b7) = 0
  · have hs := encBody_size a0 a1 (flat59 l)
    rw [if_pos h, if_pos h, if_pos h, if_pos (by rw [twoS_size]; omega), if_pos (by rw [ByteArray.size_append, twoS_size, twoS_size, GR_size]; omega), if_pos (by rw [ByteArray.size_append, ByteArray.size_append, twoS_size, twoS_size, GR_size, weightsS_size]; omega)]
    have := Seal_eq (k := k + 3) (s := encBody a0 a1 (flat59 l)) (by omega) (by omega)
    unfold encBody at this
    rw [this]
    rfl
  · rw [if_neg h, if_neg h]
theorem rCheck_l0 {l : List S59} {m : Int} (x y : Int) (hb : l.length ≤ 4611686018427387904) (d : Nat) : ∀ (k : Nat) (ok : Bool) (i : Nat), l.length - i = d → i ≤ l.length → d < k →
    aviaryref10_Check.l0 k m ok (i : Int) x y l = some (if (ok && (l.drop i).all fun g => fit59 g m) = true then 0 else 21) := by
  induction d with
  | zero =>
    intro k ok i hd hi hk
    obtain ⟨k, rfl⟩ : ∃ m, k = m + 1 := ⟨k - 1, by omega⟩
    simp only [aviaryref10_Check.l0]
    rw [if_neg (by omega), List.drop_of_length_le (by omega)]
    cases ok <;> simp
  | succ d ih =>
    intro k ok i hd hi hk
    obtain ⟨k, rfl⟩ : ∃ m, k = m + 1 := ⟨k - 1, by omega⟩
    simp only [aviaryref10_Check.l0]
    rw [if_pos (by omega)]
    cases ok with
    | false => simp
    | true =>
      rw [if_pos rfl, if_pos (by omega)]
      have hlt : i < l.length := by omega
      have hr : rd_T59 l (i : Int) = l[i] := by
        unfold rd_T59
        rw [Int.toNat_natCast, List.getD_eq_getElem?_getD, List.getElem?_eq_getElem hlt]
        rfl
      have hw : wrap64 ((i : Int) + 1) = ((i + 1 : Nat) : Int) := by unfold wrap64; omega
      rw [hr, hw, List.drop_eq_getElem_cons hlt]
      have ihF := ih k false (i + 1) (by omega) (by omega) (by omega)
      have ihT := ih k true (i + 1) (by omega) (by omega) (by omega)
      simp only [List.all_cons, Bool.true_and, Bool.false_and] at ihF ihT ⊢
      by_cases h0 : ((l[i]).f0.length : Int) = m
      · rw [if_pos h0]
        by_cases h1 : ((l[i]).f1.length : Int) = m
        · rw [if_pos h1]
          by_cases h2 : ((l[i]).f2.length : Int) = m
          · rw [if_pos h2]
            by_cases h3 : ((l[i]).f3.length : Int) = m
            · rw [show (((l[i]).f3.length : Int) == m) = true from beq_iff_eq.2 h3, ihT]
              simp [fit59, h0, h1, h2, h3]
            · rw [show (((l[i]).f3.length : Int) == m) = false from beq_eq_false_iff_ne.2 h3, ihF]
              simp [fit59, h3]
          · rw [if_neg h2, ihF]
            simp [fit59, h2]
        · rw [if_neg h1, ihF]
          simp [fit59, h1]
      · rw [if_neg h0, ihF]
        simp [fit59, h0]
theorem rCheck_eq {k : Nat} (a0 a1 : Int) (l : List S59) (b0 b1 b2 b3 b4 b5 b6 b7 : Int) (hb : l.length ≤ 4611686018427387904) (hk : l.length < k) : aviaryref10_Check.f (k + 3) a0 a1 l b0 b1 b2 b3 b4 b5 b6 b7 = some (chkR a0 a1 l b0 b2 (rightB a0 a1 b0 b1 b2 b3 b4 b5 b6 b7)) := by
  simp only [aviaryref10_Check.f, ranges_eq, Option.bind_some, chkR]
  cases e : rightB a0 a1 b0 b1 b2 b3 b4 b5 b6 b7
  · simp
  · obtain ⟨_, _, _, h4, h5⟩ := right_bounds e
    rw [mul_wrap h5]
    simp only [if_true]
    have h := rCheck_l0 (m := a0 * b0) a0 a1 hb l.length (k + 3) ((l.length : Int) == b2) 0 (by omega) (by omega) (by omega)
    simp only [Int.natCast_zero, List.drop_zero] at h
    rw [h]
    by_cases h1 : (l.length : Int) = b2
    · rw [if_pos h1, show ((l.length : Int) == b2) = true from beq_iff_eq.2 h1, Bool.true_and]
    · rw [if_neg h1, show ((l.length : Int) == b2) = false from beq_eq_false_iff_ne.2 h1, Bool.false_and]
      simp
theorem rFlat_l0 {l : List S59} (x y : Int) (hb : l.length ≤ 4611686018427387904) (hf : (flat59 l).length < 140737488355328) (d : Nat) : ∀ (k : Nat) (o : List Int) (i : Nat), l.length - i = d → i ≤ l.length → d < k → o.length + (flat59 (l.drop i)).length < 140737488355328 →
    aviaryref10_Flat.l0 k o (i : Int) x y l = some (o ++ flat59 (l.drop i)) := by
  induction d with
  | zero =>
    intro k o i hd hi hk ho
    obtain ⟨k, rfl⟩ : ∃ m, k = m + 1 := ⟨k - 1, by omega⟩
    simp only [aviaryref10_Flat.l0]
    rw [if_neg (by omega), List.drop_of_length_le (by omega)]
    simp [flat59]
  | succ d ih =>
    intro k o i hd hi hk ho
    obtain ⟨k, rfl⟩ : ∃ m, k = m + 1 := ⟨k - 1, by omega⟩
    have hlt : i < l.length := by omega
    have hr : rd_T59 l (i : Int) = l[i] := by
      unfold rd_T59
      rw [Int.toNat_natCast, List.getD_eq_getElem?_getD, List.getElem?_eq_getElem hlt]
      rfl
    have hw : wrap64 ((i : Int) + 1) = ((i + 1 : Nat) : Int) := by unfold wrap64; omega
    rw [List.drop_eq_getElem_cons hlt, flat59_cons] at ho ⊢
    simp only [List.length_append] at ho
    simp only [aviaryref10_Flat.l0, hr, hw, Option.bind_some]
    rw [if_pos (by omega), if_pos (by omega), if_pos (by omega), if_pos (by simp only [List.length_append]; omega), if_pos (by simp only [List.length_append]; omega), if_pos (by simp only [List.length_append]; omega),
      ih k _ (i + 1) (by omega) (by omega) (by omega) (by simp only [List.length_append]; omega)]
    simp [List.append_assoc]
theorem rFlat_eq {k : Nat} (a0 a1 : Int) (l : List S59) (b0 b1 b2 b3 b4 b5 b6 b7 : Int) (hb : l.length ≤ 4611686018427387904) (hk : l.length < k) : aviaryref10_Flat.f (k + 3) a0 a1 l b0 b1 b2 b3 b4 b5 b6 b7 = some (if chkR a0 a1 l b0 b2 (rightB a0 a1 b0 b1 b2 b3 b4 b5 b6 b7) = 0 then flat59 l else []) := by
  simp only [aviaryref10_Flat.f, rCheck_eq a0 a1 l b0 b1 b2 b3 b4 b5 b6 b7 hb hk, Option.bind_some]
  by_cases h : chkR a0 a1 l b0 b2 (rightB a0 a1 b0 b1 b2 b3 b4 b5 b6 b7) = 0
  · have hs := (chk_small h).1
    have h2 := rFlat_l0 (l := l) a0 a1 hb (by omega) l.length (k + 3) [] 0 (by omega) (by omega) (by omega) (by simp; omega)
    rw [if_pos h, if_pos h]
    simpa using h2
  · rw [if_neg h, if_neg h]
theorem rEncode_eq {k : Nat} (a0 a1 : Int) (l : List S59) (b0 b1 b2 b3 b4 b5 b6 b7 : Int) (h0 : -9223372036854775808 ≤ a0 ∧ a0 ≤ 9223372036854775807) (h1 : -9223372036854775808 ≤ a1 ∧ a1 ≤ 9223372036854775807) (hb : l.length ≤ 4611686018427387904) (hk : 70000 + l.length < k) : aviaryref10_Encode.f (k + 3) a0 a1 l b0 b1 b2 b3 b4 b5 b6 b7 = some (encR a0 a1 l (chkR a0 a1 l b0 b2 (rightB a0 a1 b0 b1 b2 b3 b4 b5 b6 b7))) := by
  simp only [aviaryref10_Encode.f, rCheck_eq a0 a1 l b0 b1 b2 b3 b4 b5 b6 b7 hb (show l.length < k by omega), rFlat_eq a0 a1 l b0 b1 b2 b3 b4 b5 b6 b7 hb (show l.length < k by omega), Option.bind_some, rTwo8_eq h0.1 h0.2, rTwo8_eq h1.1 h1.2, rWeightsS_eq (show 65535 < k + 3 by omega), encR]
  by_cases h : chkR a0 a1 l b0 b2 (rightB a0 a1 b0 b1 b2 b3 b4 b5 b6 b7) = 0
  · have hs := encBody_size a0 a1 (flat59 l)
    rw [if_pos h, if_pos h, if_pos h, if_pos (by rw [twoS_size]; omega), if_pos (by rw [ByteArray.size_append, twoS_size, twoS_size, GR_size]; omega), if_pos (by rw [ByteArray.size_append, ByteArray.size_append, twoS_size, twoS_size, GR_size, weightsS_size]; omega)]
    have := rSeal_eq (k := k + 3) (s := encBody a0 a1 (flat59 l)) (by omega) (by omega)
    unfold encBody at this
    rw [this]
    rfl
  · rw [if_neg h, if_neg h]
/-- What is known of an element of an adapter that came in. -/
def Good8 (l : List Int) : Prop := l.length * 1 ≤ reachBytes ∧ ∀ v ∈ l, (Lit.int .i8 v).wf = true
def Good59 (g : S59) : Prop := Good8 g.f0 ∧ Good8 g.f1 ∧ Good8 g.f2 ∧ Good8 g.f3
theorem Good8.lt {l : List Int} (h : Good8 l) : l.length < 140737488355328 := by
  have := h.1
  simp only [reachBytes] at this
  omega
theorem Good59.small {g : S59} (h : Good59 g) : g.f0.length < 140737488355328 ∧ g.f1.length < 140737488355328 ∧ g.f2.length < 140737488355328 ∧ g.f3.length < 140737488355328 := ⟨h.1.lt, h.2.1.lt, h.2.2.1.lt, h.2.2.2.lt⟩
theorem i64_of_wf {a : Int} (h : (Lit.int .i64 a).wf = true) : -9223372036854775808 ≤ a ∧ a ≤ 9223372036854775807 := wf64 h
theorem GraftChecks (a0 a1 : Int) (l : List S59) (b0 b1 b2 b3 b4 b5 b6 b7 : Int) (h0 : (Lit.int .i64 a0).wf = true) (h1 : (Lit.int .i64 a1).wf = true) (hlen : l.length * 96 ≤ reachBytes) (hl : ∀ g ∈ l, Good59 g) :
    ∃ k, aviarylaw10_GraftChecks.f k a0 a1 l b0 b1 b2 b3 b4 b5 b6 b7 = some true := by
  simp only [reachBytes] at hlen
  have w0 := i64_of_wf h0
  have w1 := i64_of_wf h1
  refine ⟨70000 + l.length + 1000 + 3, ?_⟩
  unfold aviarylaw10_GraftChecks.f
  by_cases hz : (l.length : Int) > 20
  · rw [if_pos hz]
  · rw [if_neg hz]
    have ho : aviarylaw10_Own.f a0 a1 l = some (a0, a1, l) := by
      unfold aviarylaw10_Own.f
      rw [if_pos ⟨by omega, fun g hg => Good59.small (hl g hg)⟩]
    simp only [ho, Option.bind_some]
    rw [Encode_eq _ _ _ _ _ _ _ _ _ _ _ (by omega), Option.bind_some, rEncode_eq _ _ _ _ _ _ _ _ _ _ _ w0 w1 (by omega) (by omega), Option.bind_some, Check_eq, Option.bind_some, rCheck_eq _ _ _ _ _ _ _ _ _ _ _ (by omega) (by omega), Option.bind_some, if_pos rfl,
      Flat_eq, Option.bind_some, rFlat_eq _ _ _ _ _ _ _ _ _ _ _ (by omega) (by omega), Option.bind_some]
    have hs : (if chkR a0 a1 l b0 b2 (rightB a0 a1 b0 b1 b2 b3 b4 b5 b6 b7) = 0 then flat59 l else []).length ≤ 256 := by
      split
      · rename_i h; exact (chk_small h).1
      · simp
    rw [bSame_eq (by omega) (by omega), Option.bind_some, if_pos (by simp), if_pos rfl, if_pos rfl, gSame_true]
    rfl

end Go.Proofs.Ytekaiebfgcjddaa.Pure
