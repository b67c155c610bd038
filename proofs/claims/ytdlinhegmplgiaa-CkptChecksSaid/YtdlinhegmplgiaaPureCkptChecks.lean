/- Of any model, the program and the reference tell alike what is wrong with it, its weights and its bytes. No condition. -/
import Derived.Test.YtdlinhegmplgiaaPCkptChecksx14
import Derived.Test.YtdlinhegmplgiaaMSat
import Derived.Test.YtdlinhegmplgiaaMVec
import Derived.Test.YtdlinhegmplgiaaMBytes
set_option linter.unusedVariables false
set_option linter.unusedSimpArgs false
namespace Go.Proofs.Ytdlinhegmplgiaa.Pure
open Go Go.RowKit Go.Proofs.Ytdlinhegmplgiaa.PCkptChecks Go.Proofs.YtdlinhegmplgiaaW.PrintWords Go.Proofs.YtdlinhegmplgiaaW.PrintLast Go.Proofs.Ytdlinhegmplgiaa.Mth
def wB (n l h : Int) : Bool := decide (l ≤ n) && decide (n ≤ h)
def restB (a2 a3 a4 a7 : Int) : Bool := wB a2 1 2 && (wB a3 2 16 && (wB a4 1 8 && wB a7 0 16))
def mixB (a5 a6 : Int) : Bool := (decide (a5 = 0) && decide (a6 = 0)) || (wB a5 2 4 && wB a6 1 a5)
def headB (a0 a1 : Int) : Bool := wB a0 2 8 && (wB a1 1 a0 && (decide (Int.tdiv a0 a1 * a1 = a0) && decide (Int.tmod (Int.tdiv a0 a1) 2 = 0)))
def cfgB (a0 a1 a2 a3 a4 a5 a6 a7 : Int) : Bool := headB a0 a1 && (mixB a5 a6 && restB a2 a3 a4 a7)
theorem within_eq (n l h : Int) : ckpt_within.f n l h = some (wB n l h) := by
  unfold ckpt_within.f wB
  by_cases hh : l ≤ n
  · rw [if_pos hh]; simp [hh]
  · rw [if_neg hh]; simp [hh]
theorem j2_eq (k : Nat) (x : Bool) (a0 a1 a2 a3 a4 a5 a6 a7 : Int) : ckpt_Config.j2 (k + 1) x a0 a1 a2 a3 a4 a5 a6 a7 = some (x && restB a2 a3 a4 a7) := by
  simp only [ckpt_Config.j2, within_eq, Option.bind_some, restB]
  cases x <;> cases wB a2 1 2 <;> cases wB a3 2 16 <;> cases wB a4 1 8 <;> cases wB a7 0 16 <;> rfl
theorem j1_eq (k : Nat) (x : Bool) (a0 a1 a2 a3 a4 a5 a6 a7 : Int) : ckpt_Config.j1 (k + 2) x a0 a1 a2 a3 a4 a5 a6 a7 = some (!x && (mixB a5 a6 && restB a2 a3 a4 a7)) := by
  simp only [ckpt_Config.j1, within_eq, Option.bind_some, j2_eq, mixB]
  by_cases h5 : a5 = 0
  · by_cases h6 : a6 = 0
    · cases x <;> simp [h5, h6]
    · cases x <;> cases wB a5 2 4 <;> cases wB a6 1 a5 <;> cases restB a2 a3 a4 a7 <;> simp [h6]
  · cases x <;> cases wB a5 2 4 <;> cases wB a6 1 a5 <;> cases restB a2 a3 a4 a7 <;> simp [h5]
theorem fin_ (a0 a1 : Int) (h1 : 2 ≤ a0) (h2 : a0 ≤ 8) (h3 : 1 ≤ a1) (h4 : a1 ≤ a0) : wrap64 (Int.tdiv a0 a1) = Int.tdiv a0 a1 ∧ wrap64 (Int.tdiv a0 a1 * a1) = Int.tdiv a0 a1 * a1 ∧
    (decide (Int.tdiv a0 a1 * a1 = a0) && decide (Int.tmod (Int.tdiv a0 a1) 2 = 0)) = (decide (Int.tmod a0 2 = 0) && (wB a1 1 4 && (decide (Int.tmod a0 a1 = 0) && decide (Int.tmod (Int.tdiv a0 a1) 2 = 0)))) := by
  obtain rfl | rfl | rfl | rfl | rfl | rfl | rfl : a0 = 2 ∨ a0 = 3 ∨ a0 = 4 ∨ a0 = 5 ∨ a0 = 6 ∨ a0 = 7 ∨ a0 = 8 := by omega
  all_goals
    obtain rfl | rfl | rfl | rfl | rfl | rfl | rfl | rfl : a1 = 1 ∨ a1 = 2 ∨ a1 = 3 ∨ a1 = 4 ∨ a1 = 5 ∨ a1 = 6 ∨ a1 = 7 ∨ a1 = 8 := by omega
    all_goals first | (exfalso; omega) | (decide +kernel)
theorem Config_eq (k : Nat) (a0 a1 a2 a3 a4 a5 a6 a7 : Int) : ckpt_Config.f (k + 3) a0 a1 a2 a3 a4 a5 a6 a7 = some (cfgB a0 a1 a2 a3 a4 a5 a6 a7) := by
  simp only [ckpt_Config.f, within_eq, Option.bind_some, ckpt_Config.j0, j1_eq]
  unfold cfgB headB
  cases e0 : wB a0 2 8 with
  | false => simp
  | true =>
    cases e1 : wB a1 1 a0 with
    | false => simp
    | true =>
      have b0 := e0
      have b1 := e1
      simp only [wB, Bool.and_eq_true, decide_eq_true_eq] at b0 b1
      obtain ⟨f1, f2, _⟩ := fin_ a0 a1 b0.1 b0.2 b1.1 b1.2
      rw [f1, f2]
      have hne : a1 ≠ 0 := by omega
      by_cases c : Int.tdiv a0 a1 * a1 = a0
      · by_cases c2 : Int.tmod (Int.tdiv a0 a1) 2 = 0 <;> simp [c, c2, hne]
      · simp [c, hne]
theorem in_eq (n l h : Int) : aviaryref09_in.f n l h = some (wB n l h) := by
  unfold aviaryref09_in.f wB
  by_cases hh : l ≤ n
  · rw [if_pos hh]; simp [hh]
  · rw [if_neg hh]; simp [hh]
theorem rj1_eq (k : Nat) (x : Bool) (a0 a1 a2 a3 a4 a5 a6 a7 : Int) : aviaryref09_Config.j1 (k + 1) x a0 a1 a2 a3 a4 a5 a6 a7 = some (x && restB a2 a3 a4 a7) := by
  simp only [aviaryref09_Config.j1, in_eq, Option.bind_some, restB]
  cases x <;> cases wB a2 1 2 <;> cases wB a3 2 16 <;> cases wB a4 1 8 <;> cases wB a7 0 16 <;> rfl
theorem rj0_eq (k : Nat) (x : Bool) (a0 a1 a2 a3 a4 a5 a6 a7 : Int) : aviaryref09_Config.j0 (k + 2) x a0 a1 a2 a3 a4 a5 a6 a7 = some (!x && (mixB a5 a6 && restB a2 a3 a4 a7)) := by
  simp only [aviaryref09_Config.j0, in_eq, Option.bind_some, rj1_eq, mixB]
  by_cases h5 : a5 = 0
  · by_cases h6 : a6 = 0
    · cases x <;> simp [h5, h6]
    · cases x <;> cases wB a5 2 4 <;> cases wB a6 1 a5 <;> cases restB a2 a3 a4 a7 <;> simp [h6]
  · cases x <;> cases wB a5 2 4 <;> cases wB a6 1 a5 <;> cases restB a2 a3 a4 a7 <;> simp [h5]
theorem rConfig_eq (k : Nat) (a0 a1 a2 a3 a4 a5 a6 a7 : Int) : aviaryref09_Config.f (k + 3) a0 a1 a2 a3 a4 a5 a6 a7 = some (cfgB a0 a1 a2 a3 a4 a5 a6 a7) := by
  simp only [aviaryref09_Config.f, in_eq, Option.bind_some, rj0_eq]
  unfold cfgB headB
  cases e0 : wB a0 2 8 with
  | false => simp
  | true =>
    have b0 := e0
    simp only [wB, Bool.and_eq_true, decide_eq_true_eq] at b0
    cases e4 : wB a1 1 4 with
    | false =>
      cases e1 : wB a1 1 a0 with
      | false => by_cases c : Int.tmod a0 2 = 0 <;> simp [c]
      | true =>
        have b1 := e1
        simp only [wB, Bool.and_eq_true, decide_eq_true_eq] at b1
        obtain ⟨_, _, f3⟩ := fin_ a0 a1 b0.1 b0.2 b1.1 b1.2
        rw [f3, e4]
        by_cases c : Int.tmod a0 2 = 0 <;> simp [c]
    | true =>
      have b4 := e4
      simp only [wB, Bool.and_eq_true, decide_eq_true_eq] at b4
      have hne : a1 ≠ 0 := by omega
      cases e1 : wB a1 1 a0 with
      | false =>
        have g : a0 < a1 := by
          simp only [wB, Bool.and_eq_false_iff, decide_eq_false_iff_not] at e1
          omega
        have g2 : Int.tmod a0 a1 ≠ 0 := by
          rw [Int.tmod_eq_of_lt (by omega) g]
          omega
        by_cases c : Int.tmod a0 2 = 0 <;> simp [c, g2, hne]
      | true =>
        have b1 := e1
        simp only [wB, Bool.and_eq_true, decide_eq_true_eq] at b1
        obtain ⟨f1, _, f3⟩ := fin_ a0 a1 b0.1 b0.2 b1.1 b1.2
        rw [f3, f1, e4]
        by_cases c : Int.tmod a0 2 = 0
        · by_cases c2 : Int.tmod a0 a1 = 0
          · by_cases c3 : Int.tmod (Int.tdiv a0 a1) 2 = 0 <;> simp [c, c2, c3, hne]
          · simp [c, c2, hne]
        · simp [c]
theorem cfg_bounds {a0 a1 a2 a3 a4 a5 a6 a7 : Int} (h : cfgB a0 a1 a2 a3 a4 a5 a6 a7 = true) : (2 ≤ a0 ∧ a0 ≤ 8) ∧ (1 ≤ a1 ∧ a1 ≤ 8) ∧ (1 ≤ a2 ∧ a2 ≤ 2) ∧ (2 ≤ a3 ∧ a3 ≤ 16) ∧ (1 ≤ a4 ∧ a4 ≤ 8) ∧ (0 ≤ a5 ∧ a5 ≤ 4) ∧ (0 ≤ a6 ∧ a6 ≤ 4) ∧ (0 ≤ a7 ∧ a7 ≤ 16) := by
  simp only [cfgB, headB, mixB, restB, wB, Bool.and_eq_true, Bool.or_eq_true, decide_eq_true_eq] at h
  omega
theorem bSame_l0 {a b : List Int} (hl : a.length = b.length) (hb : a.length ≤ 4611686018427387904) (d : Nat) : ∀ (k : Nat) (i : Int), 0 ≤ i → (a.length : Int) - i = d → d < k →
    aviaryref08_Same.l0 k a b i = some (decide (a.drop i.toNat = b.drop i.toNat)) := by
  induction d with
  | zero =>
    intro k i h0 hd hk
    obtain ⟨k, rfl⟩ : ∃ m, k = m + 1 := ⟨k - 1, by omega⟩
    simp only [aviaryref08_Same.l0]
    rw [if_neg (by omega), drop_len (by omega), drop_len (by omega)]
    simp
  | succ d ih =>
    intro k i h0 hd hk
    obtain ⟨k, rfl⟩ : ∃ m, k = m + 1 := ⟨k - 1, by omega⟩
    simp only [aviaryref08_Same.l0]
    rw [if_pos (by omega), if_pos h0, if_pos (by omega), drop_rd (l := a) h0 (by omega), drop_rd (l := b) h0 (by omega)]
    by_cases c : rd a i = rd b i
    · rw [if_pos c, wrap64_id (x := i + 1) (by omega) (by omega), ih k (i + 1) (by omega) (by omega) (by omega), c]
      simp
    · rw [if_neg c]
      simp [c]
theorem bSame_eq {k : Nat} {a b : List Int} (hb : a.length ≤ 4611686018427387904) (hk : a.length < k) : aviaryref08_Same.f k a b = some (decide (a = b)) := by
  unfold aviaryref08_Same.f
  by_cases c : a.length = b.length
  · rw [if_pos (by omega), bSame_l0 c hb a.length k 0 (by omega) (by omega) hk]
    rfl
  · rw [if_neg (by omega)]
    have : a ≠ b := fun h => c (by rw [h])
    simp [this]
theorem Sum_l0 {L : List Int} (hr : ∀ x ∈ L, 0 ≤ x ∧ x ≤ 255) (hb : L.length ≤ 4611686018427387904) (d : Nat) : ∀ (k : Nat) (a b i : Int), 0 ≤ i → (L.length : Int) - i = d → d < k → 0 ≤ a → a ≤ 254 → 0 ≤ b → b ≤ 254 →
    bytes_Sum.l0 k L a b i = some (sumL (L.drop i.toNat) a b) := by
  induction d with
  | zero =>
    intro k a b i h0 hd hk ha0 ha1 hb0 hb1
    obtain ⟨k, rfl⟩ : ∃ m, k = m + 1 := ⟨k - 1, by omega⟩
    simp only [bytes_Sum.l0]
    rw [if_neg (by omega), drop_len (by omega), wrap64_id (x := 256 * b) (by omega) (by omega), wrap64_id (by omega) (by omega)]
    rfl
  | succ d ih =>
    intro k a b i h0 hd hk ha0 ha1 hb0 hb1
    obtain ⟨k, rfl⟩ : ∃ m, k = m + 1 := ⟨k - 1, by omega⟩
    have hc := hr _ (rd_mem (l := L) h0 (by omega))
    simp only [bytes_Sum.l0]
    rw [if_pos (by omega), if_pos h0, wrap64_id (x := rd L i) (by omega) (by omega), wrap64_id (x := a + rd L i) (by omega) (by omega), Int.tmod_eq_emod_of_nonneg (a := a + rd L i) (by omega), wrap64_id (x := b + (a + rd L i) % 255) (by omega) (by omega), Int.tmod_eq_emod_of_nonneg (by omega), wrap64_id (x := i + 1) (by omega) (by omega), drop_rd (l := L) h0 (by omega)]
    exact ih k _ _ (i + 1) (by omega) (by omega) (by omega) (by omega) (by omega) (by omega) (by omega)
theorem Sum_eq {k : Nat} {s : ByteArray} (hb : s.size ≤ 4611686018427387904) (hk : s.size < k) : bytes_Sum.f k s = some (sumR s) := by
  unfold bytes_Sum.f
  rw [if_pos hb]
  exact Sum_l0 bytesOf_range (by rw [bytesOf_length]; exact hb) s.size k 0 0 0 (by omega) (by rw [bytesOf_length]; omega) hk (by omega) (by omega) (by omega) (by omega)
theorem bTwo_eq (n : Int) : bytes_Two.f n = some (twoS n) := rfl
theorem Seal_eq {k : Nat} {s : ByteArray} (hb : s.size ≤ 4611686018427387904) (hk : s.size < k) : bytes_Seal.f k s = some (sealR s) := by
  unfold bytes_Seal.f
  rw [Sum_eq hb hk]
  simp only [Option.bind_some, bTwo_eq]
  rw [twoS_size, if_pos (by omega)]
  rfl
theorem rTwo8_eq {a : Int} (h0 : -9223372036854775808 ≤ a) (h1 : a ≤ 9223372036854775807) : aviaryref08_Two.f a = some (twoS a) := by
  unfold aviaryref08_Two.f twoS
  have hs := tdiv_split a 65536 (by decide)
  have b0 := Int.lt_tmod_of_pos a (b := 65536) (by decide)
  have b1 := Int.tmod_lt_of_pos a (b := 65536) (by decide)
  generalize Int.tmod a 65536 = t at hs b0 b1
  generalize Int.tdiv a 65536 = q at hs
  have e1 : wrap64 (t + 65536) = t + 65536 := wrap64_id (by omega) (by omega)
  have e2 : Int.tmod (t + 65536) 65536 = a % 65536 := by rw [Int.tmod_eq_emod_of_nonneg (by omega)]; omega
  rw [e1, e2, Int.tmod_eq_emod_of_nonneg (by omega), Int.tdiv_eq_ediv_of_nonneg (by omega), wrap64_id (by omega) (by omega)]
  have e3 : a % 65536 % 256 % 256 = a % 256 := by omega
  have e4 : a % 65536 / 256 % 256 = a / 256 % 256 := by omega
  rw [e3, e4]
theorem rSum_l0 {s : ByteArray} (hb : s.size ≤ 4611686018427387904) (d : Nat) : ∀ (k : Nat) (a b i : Int), 0 ≤ i → (s.size : Int) - i = d → d < k → 0 ≤ a → a ≤ 254 → 0 ≤ b → b ≤ 254 →
    aviaryref08_Sum.l0 k s a b i = some (sumL ((bytesOf s).drop i.toNat) a b) := by
  have hL := bytesOf_length s
  induction d with
  | zero =>
    intro k a b i h0 hd hk ha0 ha1 hb0 hb1
    obtain ⟨k, rfl⟩ : ∃ m, k = m + 1 := ⟨k - 1, by omega⟩
    simp only [aviaryref08_Sum.l0]
    rw [if_neg (by omega), drop_len (by omega), wrap64_id (x := 256 * b) (by omega) (by omega), wrap64_id (by omega) (by omega)]
    rfl
  | succ d ih =>
    intro k a b i h0 hd hk ha0 ha1 hb0 hb1
    obtain ⟨k, rfl⟩ : ∃ m, k = m + 1 := ⟨k - 1, by omega⟩
    have hc := bt_range s i
    simp only [aviaryref08_Sum.l0]
    rw [if_pos (by omega), if_pos h0, wrap64_id (x := bt s i) (by omega) (by omega), wrap64_id (x := a + bt s i) (by omega) (by omega), Int.tmod_eq_emod_of_nonneg (a := a + bt s i) (by omega), wrap64_id (x := b + (a + bt s i) % 255) (by omega) (by omega), Int.tmod_eq_emod_of_nonneg (by omega), wrap64_id (x := i + 1) (by omega) (by omega), drop_rd (l := bytesOf s) h0 (by omega), rd_bytesOf]
    exact ih k _ _ (i + 1) (by omega) (by omega) (by omega) (by omega) (by omega) (by omega) (by omega)
theorem rSum_eq {k : Nat} {s : ByteArray} (hb : s.size ≤ 4611686018427387904) (hk : s.size < k) : aviaryref08_Sum.f k s = some (sumR s) := by
  unfold aviaryref08_Sum.f
  exact rSum_l0 hb s.size k 0 0 0 (by omega) (by omega) hk (by omega) (by omega) (by omega) (by omega)
theorem sumL_range : ∀ (l : List Int) (a b : Int), 0 ≤ a → a ≤ 254 → 0 ≤ b → b ≤ 254 → 0 ≤ sumL l a b ∧ sumL l a b ≤ 65278
  | [], a, b, _, _, _, _ => by simp only [sumL]; omega
  | c :: l, a, b, _, _, _, _ => sumL_range l _ _ (by omega) (by omega) (by omega) (by omega)
theorem rSeal_eq {k : Nat} {s : ByteArray} (hb : s.size ≤ 4611686018427387904) (hk : s.size < k) : aviaryref08_Seal.f k s = some (sealR s) := by
  have h := sumL_range (bytesOf s) 0 0 (by omega) (by omega) (by omega) (by omega)
  unfold aviaryref08_Seal.f
  rw [rSum_eq hb hk]
  simp only [Option.bind_some]
  rw [rTwo8_eq (by unfold sumR; omega) (by unfold sumR; omega)]
  simp only [Option.bind_some]
  rw [twoS_size, if_pos (by omega)]
  rfl
theorem wW_l0 {L : List Int} (hb : L.length ≤ 65535) (d : Nat) : ∀ (k : Nat) (o : List Int) (i : Int), 0 ≤ i → (L.length : Int) - i = d → d < k → o.length ≤ 65540 + i →
    bytes_Weights.l0 k o L L.length i = some (strOfNums (o ++ (L.drop i.toNat).map fun x => x % 256)) := by
  induction d with
  | zero =>
    intro k o i h0 hd hk ho
    obtain ⟨k, rfl⟩ : ∃ m, k = m + 1 := ⟨k - 1, by omega⟩
    simp only [bytes_Weights.l0]
    rw [if_neg (by omega), drop_len (by omega)]
    simp
  | succ d ih =>
    intro k o i h0 hd hk ho
    obtain ⟨k, rfl⟩ : ∃ m, k = m + 1 := ⟨k - 1, by omega⟩
    simp only [bytes_Weights.l0]
    rw [if_pos (by omega), if_pos h0, if_pos (by omega), if_pos (by omega), wrap64_id (x := i + 1) (by omega) (by omega), ih k _ (i + 1) (by omega) (by omega) (by omega) (by simp; omega), drop_rd (l := L) h0 (by omega)]
    simp
theorem WeightsS_eq {k : Nat} {l : List Int} (hk : 65535 < k) : bytes_Weights.f k l = some (weightsS l) := by
  have hl : (l.take (min l.length 65535)).length = min l.length 65535 := by rw [List.length_take]; omega
  have hw := wW_l0 (L := l.take (min l.length 65535)) (by omega) (min l.length 65535) k (bytesOf (twoS ((min l.length 65535 : Nat) : Int))) 0 (by omega) (by omega) (by omega) (by rw [bytesOf_length, twoS_size]; omega)
  rw [hl] at hw
  unfold bytes_Weights.f
  rw [bTwo_eq]
  simp only [Option.bind_some]
  rw [twoS_size, if_pos (by omega), hw, strOfNums_append, strOfNums_bytesOf]
  rfl
theorem rwW_l0 {l : List Int} {n : Nat} (hn : n ≤ l.length) (hb : n ≤ 65535) (d : Nat) : ∀ (k : Nat) (i : Int), 0 ≤ i → (n : Int) - i = d → d < k →
    aviaryref08_Weights.l0 k l n (fillI ((l.take n).map fun x => x % 256) i) i = some (twoS n ++ strOfNums ((l.take n).map fun x => x % 256)) := by
  have hL : ((l.take n).map fun x => x % 256).length = n := by rw [List.length_map, List.length_take]; omega
  induction d with
  | zero =>
    intro k i h0 hd hk
    obtain ⟨k, rfl⟩ : ∃ m, k = m + 1 := ⟨k - 1, by omega⟩
    simp only [aviaryref08_Weights.l0]
    rw [if_neg (by omega), fillI_end (by omega), rTwo8_eq (by omega) (by omega)]
    simp only [Option.bind_some]
    have z : (strOfNums ((l.take n).map fun x => x % 256)).size = n := by
      rw [← bytesOf_length, bytesOf_strOfNums, hL]
      intro x hx
      obtain ⟨y, _, rfl⟩ := List.mem_map.1 hx
      omega
    rw [twoS_size, z, if_pos (by omega)]
  | succ d ih =>
    intro k i h0 hd hk
    obtain ⟨k, rfl⟩ : ∃ m, k = m + 1 := ⟨k - 1, by omega⟩
    have e : rd l i % 256 = rd ((l.take n).map fun x => x % 256) i := by
      rw [rd_map (f := fun x => x % 256) h0 (by rw [List.length_take]; omega)]
      unfold rd
      rw [List.getD_eq_getElem?_getD, List.getD_eq_getElem?_getD, List.getElem?_take, if_pos (by omega)]
    simp only [aviaryref08_Weights.l0]
    rw [if_pos (by omega), if_pos h0, if_pos (by omega), if_pos (by rw [fillI_len (by omega)]; omega), e, fillI_set h0 (by omega), wrap64_id (x := i + 1) (by omega) (by omega)]
    exact ih k (i + 1) (by omega) (by omega) (by omega)
theorem rWeightsS_eq {k : Nat} {l : List Int} (hk : 65535 < k) : aviaryref08_Weights.f k l = some (weightsS l) := by
  have hm : mn (l.length : Int) 65535 = ((min l.length 65535 : Nat) : Int) := by unfold mn; split <;> omega
  have hL : ((l.take (min l.length 65535)).map fun x => x % 256).length = min l.length 65535 := by rw [List.length_map, List.length_take]; omega
  have e : List.replicate (((min l.length 65535 : Nat) : Int)).toNat (0 : Int) = fillI ((l.take (min l.length 65535)).map fun x => x % 256) 0 := by rw [fillI_zero, hL]; rfl
  unfold aviaryref08_Weights.f
  rw [hm, if_pos (by omega), if_pos (by omega), e, rwW_l0 (by omega) (by omega) (min l.length 65535) k 0 (by omega) (by omega) (by omega)]
  rfl
theorem cfg_rng {a0 a1 a2 a3 a4 a5 a6 a7 : Int} (h : cfgB a0 a1 a2 a3 a4 a5 a6 a7 = true) : rngM a0 a2 a3 a4 a5 = true := by
  have hb := cfg_bounds h
  simp only [rngM, decide_eq_true_eq]
  omega
/-- What is wrong with a model. -/
def chkM (a0 a1 a2 a3 a4 a5 a6 a7 : Int) (e : List Int) (L : List S59) (nn o : List Int) : Int := if cfgB a0 a1 a2 a3 a4 a5 a6 a7 = true then (if fitM a0 a2 a3 a4 a5 e L nn o = true then 0 else 21) else 20
theorem MCheck_eq (k : Nat) (a0 a1 a2 a3 a4 a5 a6 a7 : Int) (e : List Int) (L : List S59) (nn o : List Int) : ckpt_Check.f (k + 3) a0 a1 a2 a3 a4 a5 a6 a7 e L nn o = some (chkM a0 a1 a2 a3 a4 a5 a6 a7 e L nn o) := by
  simp only [ckpt_Check.f, Config_eq, Option.bind_some, chkM]
  cases h : cfgB a0 a1 a2 a3 a4 a5 a6 a7
  · simp
  · rw [cfg_rng h]
    simp
theorem chkM_zero {a0 a1 a2 a3 a4 a5 a6 a7 : Int} {e : List Int} {L : List S59} {nn o : List Int} (h : chkM a0 a1 a2 a3 a4 a5 a6 a7 e L nn o = 0) : cfgB a0 a1 a2 a3 a4 a5 a6 a7 = true ∧ fitM a0 a2 a3 a4 a5 e L nn o = true := by
  unfold chkM at h
  by_cases h1 : cfgB a0 a1 a2 a3 a4 a5 a6 a7 = true
  · rw [if_pos h1] at h
    by_cases h2 : fitM a0 a2 a3 a4 a5 e L nn o = true
    · exact ⟨h1, h2⟩
    · rw [if_neg h2] at h; simp at h
  · rw [if_neg h1] at h; simp at h
theorem pairs_len (a b : Nat → List Int) : ∀ k : Nat, ((List.range k).flatMap fun j => [a j, b j]).length = 2 * k
  | 0 => rfl
  | k + 1 => by rw [List.range_succ, List.flatMap_append, List.length_append, pairs_len a b k]; simp; omega
theorem pairs_ok (a b : Nat → List Int) (x : Int) : ∀ k : Nat, (((List.range k).flatMap fun j => [a j, b j]).map (fun l => (l.length : Int)) = (List.range k).flatMap (fun _ => [x, x])) ↔ ∀ j, j < k → ((a j).length : Int) = x ∧ ((b j).length : Int) = x
  | 0 => by simp
  | k + 1 => by
    rw [List.range_succ, List.flatMap_append, List.flatMap_append, List.map_append]
    have hl : (((List.range k).flatMap fun j => [a j, b j]).map (fun l => (l.length : Int))).length = ((List.range k).flatMap (fun _ => [x, x])).length := by
      rw [List.length_map, pairs_len]
      have h : ∀ m : Nat, ((List.range m).flatMap (fun _ => [x, x])).length = 2 * m := fun m => by
        induction m with
        | zero => rfl
        | succ m ih => rw [List.range_succ, List.flatMap_append, List.length_append, ih]; simp; omega
      rw [h]
    constructor
    · intro h j hj
      obtain ⟨h1, h2⟩ := List.append_inj h hl
      rcases Nat.lt_or_ge j k with hjk | hjk
      · exact (pairs_ok a b x k).1 h1 j hjk
      · obtain rfl : j = k := by omega
        simpa using h2
    · intro h
      rw [(pairs_ok a b x k).2 (fun j hj => h j (by omega))]
      obtain ⟨h1, h2⟩ := h k (by omega)
      simp [h1, h2]
theorem rowsL_ok (k : Nat) (g : S59) (c0 c4 c5 : Int) : (rowsL k g).map (fun l => (l.length : Int)) = sizesL k c0 c4 c5 ↔ (((g.f0.length : Int) = c0 ∧ (g.f1.length : Int) = c0 * c0 ∧ (g.f2.length : Int) = c0 * c0 ∧ (g.f3.length : Int) = c0 * c0 ∧ (g.f4.length : Int) = c0 * c0 ∧ (g.f5.length : Int) = c0 ∧ (g.f6.length : Int) = c5 * c0) ∧ ∀ j, j < k → ((g.f7.getD j []).length : Int) = c4 * c0 ∧ ((g.f8.getD j []).length : Int) = c4 * c0) := by
  rw [← pairs_ok (fun j => g.f7.getD j []) (fun j => g.f8.getD j []) (c4 * c0) k]
  simp only [rowsL, sizesL, List.map_append, List.map_cons, List.map_nil, List.cons_append, List.nil_append, List.cons.injEq]
  constructor
  · rintro ⟨h0, h1, h2, h3, h4, h5, h6, h7⟩; exact ⟨⟨h0, h1, h2, h3, h4, h5, h6⟩, h7⟩
  · rintro ⟨⟨h0, h1, h2, h3, h4, h5, h6⟩, h7⟩; exact ⟨h0, h1, h2, h3, h4, h5, h6, h7⟩
theorem rowsL_len (k : Nat) (g : S59) : (rowsL k g).length = 7 + 2 * k := by
  unfold rowsL
  rw [List.length_append, pairs_len]
  rfl
theorem sizesL_len (k : Nat) (c0 c4 c5 : Int) : (sizesL k c0 c4 c5).length = 7 + 2 * k := by
  unfold sizesL
  rw [List.length_append]
  have h : ∀ m : Nat, ((List.range m).flatMap (fun _ => [c4 * c0, c4 * c0])).length = 2 * m := fun m => by
    induction m with
    | zero => rfl
    | succ m ih => rw [List.range_succ, List.flatMap_append, List.length_append, ih]; simp; omega
  rw [h]
  rfl
theorem range_same {x : List Int} (n : Nat) : (List.range (n + 1)).flatMap (fun _ => x) = x ++ (List.range n).flatMap (fun _ => x) := by
  rw [List.range_succ_eq_map, List.flatMap_cons, List.flatMap_map]
theorem layers_ok (k : Nat) (c0 c4 c5 : Int) : ∀ L : List S59, (L.flatMap (rowsL k)).map (fun l => (l.length : Int)) = (List.range L.length).flatMap (fun _ => sizesL k c0 c4 c5) ↔ ∀ g ∈ L, (rowsL k g).map (fun l => (l.length : Int)) = sizesL k c0 c4 c5
  | [] => by simp
  | g :: L => by
    rw [List.flatMap_cons, List.map_append, List.length_cons, range_same]
    have hl : ((rowsL k g).map (fun l => (l.length : Int))).length = (sizesL k c0 c4 c5).length := by rw [List.length_map, rowsL_len, sizesL_len]
    constructor
    · intro h x hx
      obtain ⟨h1, h2⟩ := List.append_inj h hl
      rcases List.mem_cons.1 hx with rfl | hx
      · exact h1
      · exact (layers_ok k c0 c4 c5 L).1 h2 x hx
    · intro h
      rw [h g (by simp), (layers_ok k c0 c4 c5 L).2 (fun x hx => h x (by simp [hx]))]
theorem layersR_len (k : Nat) : ∀ L : List S59, (L.flatMap (rowsL k)).length = L.length * (7 + 2 * k)
  | [] => by simp
  | g :: L => by rw [List.flatMap_cons, List.length_append, rowsL_len, layersR_len k L, List.length_cons, Nat.add_mul, Nat.one_mul, Nat.add_comm]
theorem layersS_len (k : Nat) (c0 c4 c5 : Int) : ∀ n : Nat, ((List.range n).flatMap (fun _ => sizesL k c0 c4 c5)).length = n * (7 + 2 * k)
  | 0 => by simp
  | n + 1 => by rw [range_same, List.length_append, sizesL_len, layersS_len k c0 c4 c5 n, Nat.add_mul, Nat.one_mul, Nat.add_comm]
theorem rowsM_ok (k : Nat) (e : List Int) (L : List S59) (nn o : List Int) (c0 c3 c4 c5 : Int) : (rowsM k e L nn o).map (fun l => (l.length : Int)) = sizesM L.length k c0 c3 c4 c5 ↔ (((e.length : Int) = c3 * c0 ∧ (nn.length : Int) = c0 ∧ (o.length : Int) = c3 * c0) ∧ ∀ g ∈ L, (rowsL k g).map (fun l => (l.length : Int)) = sizesL k c0 c4 c5) := by
  rw [← layers_ok]
  simp only [rowsM, sizesM, List.map_append, List.map_cons, List.map_nil, List.append_assoc]
  have hl : ((L.flatMap (rowsL k)).map (fun l => (l.length : Int))).length = ((List.range L.length).flatMap (fun _ => sizesL k c0 c4 c5)).length := by rw [List.length_map, layersR_len, layersS_len]
  constructor
  · intro h
    obtain ⟨h0, h1⟩ := List.append_inj h rfl
    obtain ⟨h2, h3⟩ := List.append_inj h1 hl
    simp only [List.cons_append, List.nil_append, List.cons.injEq, and_true] at h0 h3
    exact ⟨⟨h0, h3.1, h3.2⟩, h2⟩
  · rintro ⟨⟨h0, h1, h2⟩, h3⟩
    rw [h0, h1, h2, h3]
theorem fitM_iff {c0 c2 c3 c4 c5 : Int} {e : List Int} {L : List S59} {nn o : List Int} : fitM c0 c2 c3 c4 c5 e L nn o = true ↔ ((L.length : Int) = c2 ∧ ((e.length : Int) = c3 * c0 ∧ (nn.length : Int) = c0 ∧ (o.length : Int) = c3 * c0) ∧ ∀ g ∈ L, ((g.f7.length : Int) = mx c5 1 ∧ (g.f8.length : Int) = mx c5 1) ∧ ((g.f0.length : Int) = c0 ∧ (g.f1.length : Int) = c0 * c0 ∧ (g.f2.length : Int) = c0 * c0 ∧ (g.f3.length : Int) = c0 * c0 ∧ (g.f4.length : Int) = c0 * c0 ∧ (g.f5.length : Int) = c0 ∧ (g.f6.length : Int) = c5 * c0) ∧ ∀ j, j < (mx c5 1).toNat → ((g.f7.getD j []).length : Int) = c4 * c0 ∧ ((g.f8.getD j []).length : Int) = c4 * c0) := by
  simp only [fitM, Bool.and_eq_true, decide_eq_true_eq, rowsM_ok, rowsL_ok, List.all_eq_true, fitU]
  constructor
  · rintro ⟨h0, h1, h2, h3⟩
    exact ⟨h0, h2, fun g hg => ⟨h1 g hg, h3 g hg⟩⟩
  · rintro ⟨h0, h2, h3⟩
    exact ⟨h0, fun g hg => (h3 g hg).1, h2, fun g hg => (h3 g hg).2⟩
theorem rfitM_eq (c0 c2 c3 c4 c5 : Int) (e : List Int) (L : List S59) (nn o : List Int) : rfitM c0 c2 c3 c4 c5 e L nn o = fitM c0 c2 c3 c4 c5 e L nn o := by
  rw [Bool.eq_iff_iff, fitM_iff]
  simp only [rfitM, rfit, rfitL, rfitH, rfitU, Bool.and_eq_true, decide_eq_true_eq, List.all_eq_true, List.mem_range]
  constructor
  · rintro ⟨⟨h0, h1, h2, h3⟩, h4⟩
    refine ⟨h0, ⟨h1, h2, h3⟩, fun g hg => ?_⟩
    obtain ⟨⟨q0, q1, q2, q3, q4, q5, q6, q7, q8⟩, q9⟩ := h4 g hg
    exact ⟨⟨q7, q8⟩, ⟨q0, q1, q2, q3, q4, q5, q6⟩, q9⟩
  · rintro ⟨h0, ⟨h1, h2, h3⟩, h4⟩
    refine ⟨⟨h0, h1, h2, h3⟩, fun g hg => ?_⟩
    obtain ⟨⟨q7, q8⟩, ⟨q0, q1, q2, q3, q4, q5, q6⟩, q9⟩ := h4 g hg
    exact ⟨⟨q0, q1, q2, q3, q4, q5, q6, q7, q8⟩, q9⟩
theorem rMCheck_eq (k : Nat) (a0 a1 a2 a3 a4 a5 a6 a7 : Int) (e : List Int) (L : List S59) (nn o : List Int) : aviaryref09_Check.f (k + 3) a0 a1 a2 a3 a4 a5 a6 a7 e L nn o = some (chkM a0 a1 a2 a3 a4 a5 a6 a7 e L nn o) := by
  simp only [aviaryref09_Check.f, rConfig_eq, Option.bind_some, chkM, rfitM_eq]
  cases h : cfgB a0 a1 a2 a3 a4 a5 a6 a7
  · simp
  · rw [cfg_rng h]
    simp
/-- The weights of a model, in line. -/
def flatL (k : Nat) (g : S59) : List Int := (rowsL k g).flatMap id
def flatM (k : Nat) (e : List Int) (L : List S59) (nn o : List Int) : List Int := (rowsM k e L nn o).flatMap id
theorem flatM_eq (k : Nat) (e : List Int) (L : List S59) (nn o : List Int) : flatM k e L nn o = e ++ (L.flatMap (flatL k) ++ (nn ++ o)) := by
  simp only [flatM, rowsM, List.flatMap_append, List.flatMap_cons, List.flatMap_nil, id, List.append_nil, List.append_assoc, List.flatMap_assoc]
  rfl
theorem flatL_eq (k : Nat) (g : S59) : flatL k g = g.f0 ++ (g.f1 ++ (g.f2 ++ (g.f3 ++ (g.f4 ++ (g.f5 ++ (g.f6 ++ (List.range k).flatMap fun j => g.f7.getD j [] ++ g.f8.getD j [])))))) := by
  simp only [flatL, rowsL, List.flatMap_append, List.flatMap_cons, List.flatMap_nil, id, List.append_nil, List.append_assoc, List.flatMap_assoc]
theorem MFlat_eq (k : Nat) (a0 a1 a2 a3 a4 a5 a6 a7 : Int) (e : List Int) (L : List S59) (nn o : List Int) : ckpt_Flat.f (k + 3) a0 a1 a2 a3 a4 a5 a6 a7 e L nn o = some (if chkM a0 a1 a2 a3 a4 a5 a6 a7 e L nn o = 0 then flatM (mx a5 1).toNat e L nn o else []) := by
  simp only [ckpt_Flat.f, MCheck_eq, Option.bind_some, flatM]
  by_cases h : chkM a0 a1 a2 a3 a4 a5 a6 a7 e L nn o = 0
  · rw [if_pos h, if_pos h]
  · rw [if_neg h, if_neg h]
theorem pairsF_len {a b : Nat → List Int} {x : Nat} : ∀ {k : Nat}, (∀ j, j < k → (a j).length = x ∧ (b j).length = x) → ((List.range k).flatMap fun j => a j ++ b j).length = k * (2 * x)
  | 0, _ => by simp
  | k + 1, h => by
    rw [List.range_succ, List.flatMap_append, List.length_append, pairsF_len (k := k) (fun j hj => h j (by omega)), Nat.add_mul]
    have h1 := h k (by omega)
    simp [h1.1, h1.2]
    omega
theorem flatL_len {k : Nat} {g : S59} (hk : k ≤ 4) (h0 : g.f0.length ≤ 8) (h1 : g.f1.length ≤ 64) (h2 : g.f2.length ≤ 64) (h3 : g.f3.length ≤ 64) (h4 : g.f4.length ≤ 64) (h5 : g.f5.length ≤ 8) (h6 : g.f6.length ≤ 32) {x : Nat} (hx : x ≤ 64) (h7 : ∀ j, j < k → (g.f7.getD j []).length = x ∧ (g.f8.getD j []).length = x) : (flatL k g).length ≤ 816 := by
  rw [flatL_eq]
  simp only [List.length_append]
  have hp := pairsF_len h7
  have hm : k * (2 * x) ≤ 4 * 128 := Nat.mul_le_mul hk (by omega)
  rw [hp]
  omega
theorem mul_small {a b : Int} {m n : Nat} (h0 : 0 ≤ a) (h1 : a ≤ m) (h2 : 0 ≤ b) (h3 : b ≤ n) {l : Nat} (h : (l : Int) = a * b) : l ≤ m * n := by
  have h4 : a * b ≤ (m : Int) * n := Int.mul_le_mul h1 h3 h2 (by omega)
  have h5 : ((m * n : Nat) : Int) = (m : Int) * n := Int.natCast_mul m n
  omega
theorem chkM_layer {a0 a1 a2 a3 a4 a5 a6 a7 : Int} {e : List Int} {L : List S59} {nn o : List Int} (h : chkM a0 a1 a2 a3 a4 a5 a6 a7 e L nn o = 0) {g : S59} (hg : g ∈ L) : (flatL (mx a5 1).toNat g).length ≤ 816 ∧ g.f7.length = (mx a5 1).toNat ∧ g.f8.length = (mx a5 1).toNat := by
  obtain ⟨h1, h2⟩ := chkM_zero h
  obtain ⟨⟨b0, b1⟩, _, _, _, ⟨b2, b3⟩, ⟨b4, b5⟩, _⟩ := cfg_bounds h1
  obtain ⟨hk0, hk4, hkx⟩ := rng_k (cfg_rng h1)
  obtain ⟨_, _, h3⟩ := fitM_iff.1 h2
  obtain ⟨⟨q7, q8⟩, ⟨q0, q1, q2, q3, q4, q5, q6⟩, q9⟩ := h3 g hg
  refine ⟨?_, by omega, by omega⟩
  obtain ⟨x, hx⟩ := Int.eq_ofNat_of_zero_le (show 0 ≤ a4 * a0 from Int.mul_nonneg (by omega) (by omega))
  rw [hx] at q9
  exact flatL_len hk4 (by omega) (mul_small (m := 8) (n := 8) (by omega) (by omega) (by omega) (by omega) q1) (mul_small (m := 8) (n := 8) (by omega) (by omega) (by omega) (by omega) q2) (mul_small (m := 8) (n := 8) (by omega) (by omega) (by omega) (by omega) q3) (mul_small (m := 8) (n := 8) (by omega) (by omega) (by omega) (by omega) q4) (by omega) (mul_small (m := 4) (n := 8) (by omega) (by omega) (by omega) (by omega) q6) (mul_small (m := 8) (n := 8) (by omega) (by omega) (by omega) (by omega) hx.symm) (fun j hj => by have := q9 j hj; omega)
theorem flats_len {k : Nat} : ∀ {L : List S59}, (∀ g ∈ L, (flatL k g).length ≤ 816) → (L.flatMap (flatL k)).length ≤ L.length * 816
  | [], _ => by simp
  | g :: L, h => by
    have h1 := h g (by simp)
    have h2 := flats_len (k := k) (L := L) (fun x hx => h x (by simp [hx]))
    rw [List.flatMap_cons, List.length_append, List.length_cons, Nat.add_mul]
    omega
theorem chkM_small {a0 a1 a2 a3 a4 a5 a6 a7 : Int} {e : List Int} {L : List S59} {nn o : List Int} (h : chkM a0 a1 a2 a3 a4 a5 a6 a7 e L nn o = 0) : L.length ≤ 2 ∧ e.length ≤ 128 ∧ nn.length ≤ 8 ∧ o.length ≤ 128 ∧ (flatM (mx a5 1).toNat e L nn o).length ≤ 2000 := by
  obtain ⟨h1, h2⟩ := chkM_zero h
  obtain ⟨⟨b0, b1⟩, _, ⟨d0, d1⟩, ⟨d2, d3⟩, _⟩ := cfg_bounds h1
  obtain ⟨h3, ⟨h4, h5, h6⟩, _⟩ := fitM_iff.1 h2
  have e1 := mul_small (m := 16) (n := 8) (by omega) (by omega) (by omega) (by omega) h4
  have e2 := mul_small (m := 16) (n := 8) (by omega) (by omega) (by omega) (by omega) h6
  have e3 := flats_len (k := (mx a5 1).toNat) (L := L) (fun g hg => (chkM_layer h hg).1)
  have e4 : L.length ≤ 2 := by omega
  refine ⟨e4, e1, by omega, e2, ?_⟩
  rw [flatM_eq]
  simp only [List.length_append]
  have : L.length * 816 ≤ 2 * 816 := Nat.mul_le_mul_right _ e4
  omega
theorem range_drop {m j : Nat} (h : j < m) : (List.range m).drop j = j :: (List.range m).drop (j + 1) := by
  rw [List.drop_eq_getElem_cons (by rw [List.length_range]; exact h), List.getElem_range]
theorem rMF_l1 {g : S59} {m : Nat} (h7 : g.f7.length = m) (h8 : g.f8.length = m) (hm : m ≤ 4) (x : Int) (a0 a1 a2 a3 a4 a5 a6 a7 : Int) (e : List Int) (L : List S59) (nn oo : List Int) (k : Nat) (d : Nat) : ∀ (o : List Int) (j : Nat), m - j = d → j ≤ m → o.length + (((List.range m).drop j).flatMap fun i => g.f7.getD i [] ++ g.f8.getD i []).length < 140737488355328 →
    aviaryref09_Flat.l1 (d + 1 + k) o x (j : Int) a0 a1 a2 a3 a4 a5 a6 a7 e L nn oo g.f0 g.f1 g.f2 g.f3 g.f4 g.f5 g.f6 g.f7 g.f8 = aviaryref09_Flat.l0 k (o ++ ((List.range m).drop j).flatMap fun i => g.f7.getD i [] ++ g.f8.getD i []) (wrap64 (x + 1)) a0 a1 a2 a3 a4 a5 a6 a7 e L nn oo := by
  induction d with
  | zero =>
    intro o j hd hj ho
    rw [show 0 + 1 + k = k + 1 by omega]
    simp only [aviaryref09_Flat.l1]
    rw [if_neg (by omega), List.drop_of_length_le (by rw [List.length_range]; omega)]
    simp
  | succ d ih =>
    intro o j hd hj ho
    rw [show d + 1 + 1 + k = (d + 1 + k) + 1 by omega]
    have hlt : j < m := by clear ho ih; omega
    have q1 : ((j : Nat) : Int) < (g.f7.length : Int) := by clear ho ih; omega
    have q2 : 0 ≤ ((j : Nat) : Int) := by clear ho ih; omega
    have q3 : ((j : Nat) : Int) < (g.f8.length : Int) := by clear ho ih; omega
    have q4 : m - (j + 1) = d := by clear ho ih; omega
    rw [range_drop hlt, List.flatMap_cons] at ho ⊢
    simp only [List.length_append] at ho
    have r7 : rd_L2 g.f7 (j : Int) = g.f7.getD j [] := by unfold rd_L2; rw [Int.toNat_natCast]
    have r8 : rd_L2 g.f8 (j : Int) = g.f8.getD j [] := by unfold rd_L2; rw [Int.toNat_natCast]
    have hw : wrap64 ((j : Int) + 1) = ((j + 1 : Nat) : Int) := by clear ho ih; unfold wrap64; omega
    have ho1 : o.length + (g.f7.getD j []).length < 140737488355328 := by clear ih hw; omega
    have ho2 : (o ++ g.f7.getD j []).length + (g.f8.getD j []).length < 140737488355328 := by clear ih hw; rw [List.length_append]; omega
    have ho3 : ((o ++ g.f7.getD j []) ++ g.f8.getD j []).length + (((List.range m).drop (j + 1)).flatMap fun i => g.f7.getD i [] ++ g.f8.getD i []).length < 140737488355328 := by clear ih hw; rw [List.length_append, List.length_append]; omega
    simp only [aviaryref09_Flat.l1, r7, r8, hw, Option.bind_some]
    rw [if_pos q1, if_pos q2, if_pos ho1, if_pos q3, if_pos ho2, ih _ (j + 1) q4 hlt ho3]
    simp only [List.append_assoc]
theorem rMF_l0 {L : List S59} {m : Nat} (hm : m ≤ 4) (hL : ∀ g ∈ L, g.f7.length = m ∧ g.f8.length = m) (hb : L.length ≤ 4611686018427387904) (a0 a1 a2 a3 a4 a5 a6 a7 : Int) (e : List Int) (nn oo : List Int) (d : Nat) : ∀ (k : Nat) (o : List Int) (i : Nat), L.length - i = d → i ≤ L.length → 6 * d < k → o.length + ((L.drop i).flatMap (flatL m)).length + nn.length + oo.length < 140737488355328 →
    aviaryref09_Flat.l0 k o (i : Int) a0 a1 a2 a3 a4 a5 a6 a7 e L nn oo = some (o ++ ((L.drop i).flatMap (flatL m) ++ (nn ++ oo))) := by
  induction d with
  | zero =>
    intro k o i hd hi hk ho
    obtain ⟨k, rfl⟩ : ∃ q, k = q + 1 := ⟨k - 1, by omega⟩
    simp only [aviaryref09_Flat.l0, Option.bind_some]
    rw [if_neg (by omega), if_pos (by omega), if_pos (by simp only [List.length_append]; omega), List.drop_of_length_le (by omega)]
    simp
  | succ d ih =>
    intro k o i hd hi hk ho
    have hlt : i < L.length := by omega
    obtain ⟨k, rfl⟩ : ∃ q, k = (m - 0 + 1 + q) + 1 := ⟨k - (m + 2), by omega⟩
    have hr : rd_T59 L (i : Int) = L[i] := by
      unfold rd_T59
      rw [Int.toNat_natCast, List.getD_eq_getElem?_getD, List.getElem?_eq_getElem hlt]
      rfl
    have hw : wrap64 ((i : Int) + 1) = ((i + 1 : Nat) : Int) := by unfold wrap64; omega
    obtain ⟨h7, h8⟩ := hL _ (List.getElem_mem hlt)
    rw [List.drop_eq_getElem_cons hlt, List.flatMap_cons] at ho ⊢
    generalize L[i] = g at *
    rw [flatL_eq] at ho ⊢
    simp only [List.length_append] at ho
    have hd0 : (List.range m).drop 0 = List.range m := rfl
    have hl1 := fun (o : List Int) (ho) => rMF_l1 h7 h8 hm (i : Int) a0 a1 a2 a3 a4 a5 a6 a7 e L nn oo k (m - 0) o 0 rfl (Nat.zero_le _) ho
    rw [hd0] at hl1
    simp only [aviaryref09_Flat.l0, hr, Option.bind_some]
    rw [if_pos (by omega), if_pos (by omega), if_pos (by omega), if_pos (by simp only [List.length_append]; omega), if_pos (by simp only [List.length_append]; omega), if_pos (by simp only [List.length_append]; omega), if_pos (by simp only [List.length_append]; omega), if_pos (by simp only [List.length_append]; omega), if_pos (by simp only [List.length_append]; omega)]
    have h1 := hl1 (((((((o ++ g.f0) ++ g.f1) ++ g.f2) ++ g.f3) ++ g.f4) ++ g.f5) ++ g.f6) (by simp only [List.length_append]; omega)
    rw [show ((0 : Nat) : Int) = 0 from rfl] at h1
    rw [h1, hw, ih k _ (i + 1) (by omega) (by omega) (by omega) (by simp only [List.length_append]; omega)]
    simp only [List.append_assoc]
theorem rMFlat_eq {k : Nat} (hk : 20 < k) (a0 a1 a2 a3 a4 a5 a6 a7 : Int) (e : List Int) (L : List S59) (nn o : List Int) : aviaryref09_Flat.f (k + 3) a0 a1 a2 a3 a4 a5 a6 a7 e L nn o = some (if chkM a0 a1 a2 a3 a4 a5 a6 a7 e L nn o = 0 then flatM (mx a5 1).toNat e L nn o else []) := by
  simp only [aviaryref09_Flat.f, rMCheck_eq, Option.bind_some]
  by_cases h : chkM a0 a1 a2 a3 a4 a5 a6 a7 e L nn o = 0
  · obtain ⟨s1, s2, s3, s4, s5⟩ := chkM_small h
    have hk4 := (rng_k (cfg_rng (chkM_zero h).1)).2.1
    rw [flatM_eq] at s5
    simp only [List.length_append] at s5
    have h2 := rMF_l0 (L := L) hk4 (fun g hg => (chkM_layer h hg).2) (by omega) a0 a1 a2 a3 a4 a5 a6 a7 e nn o L.length (k + 3) ([] ++ e) 0 (by omega) (by omega) (by omega) (by simp only [List.drop_zero, List.length_append, List.length_nil]; omega)
    rw [if_pos h, if_pos h, if_pos (by simp only [List.length_nil]; omega), flatM_eq]
    simpa using h2
  · rw [if_neg h, if_neg h]
/-- What a model's bytes are. -/
def numsM (a0 a1 a2 a3 a4 a5 a6 a7 : Int) : ByteArray := encT [twoS a0, twoS a1, twoS a2, twoS a3, twoS a4, twoS a5, twoS a6, twoS a7] 8
def encM (a0 a1 a2 a3 a4 a5 a6 a7 : Int) (chk : Int) (W : List Int) : ByteArray × Int := if chk = 0 then (sealR (numsM a0 a1 a2 a3 a4 a5 a6 a7 ++ weightsS W), 0) else (⟨#[]⟩, chk)
theorem AV_size : (⟨#[65, 86]⟩ : ByteArray).size = 2 := rfl
theorem numsM_size (a0 a1 a2 a3 a4 a5 a6 a7 : Int) : (numsM a0 a1 a2 a3 a4 a5 a6 a7).size = 18 := by
  unfold numsM encT
  simp only [List.take_succ_cons, List.take_zero, List.foldl_cons, List.foldl_nil, ByteArray.size_append, twoS_size, AV_size]
theorem MEncode_eq {k : Nat} (hk : 70000 < k) (a0 a1 a2 a3 a4 a5 a6 a7 : Int) (e : List Int) (L : List S59) (nn o : List Int) : ckpt_Encode.f (k + 3) a0 a1 a2 a3 a4 a5 a6 a7 e L nn o = some (encM a0 a1 a2 a3 a4 a5 a6 a7 (chkM a0 a1 a2 a3 a4 a5 a6 a7 e L nn o) (flatM (mx a5 1).toNat e L nn o)) := by
  simp only [ckpt_Encode.f, MCheck_eq, Option.bind_some, encM]
  by_cases h : chkM a0 a1 a2 a3 a4 a5 a6 a7 e L nn o = 0
  · rw [if_pos h, if_pos h]
    simp only [ckpt_Encode.g, bTwo_eq, Option.bind_some, MFlat_eq, if_pos h, WeightsS_eq (show 65535 < k + 3 by omega)]
    have hs : (numsM a0 a1 a2 a3 a4 a5 a6 a7 ++ weightsS (flatM (mx a5 1).toNat e L nn o)).size ≤ 65555 := by
      rw [ByteArray.size_append, numsM_size, weightsS_size]
      omega
    have h2 := Seal_eq (k := k + 3) (s := numsM a0 a1 a2 a3 a4 a5 a6 a7 ++ weightsS (flatM (mx a5 1).toNat e L nn o)) (by omega) (by omega)
    unfold numsM at hs h2 ⊢
    rw [if_pos (by omega), h2]
    rfl
  · rw [if_neg h, if_neg h]
def joinT (s : ByteArray) (xs : List Int) : ByteArray := xs.foldl (fun b x => b ++ twoS x) s
theorem rME_l0 {xs : List Int} (hx : ∀ x ∈ xs, -9223372036854775808 ≤ x ∧ x ≤ 9223372036854775807) (hl : xs.length ≤ 100) (a0 a1 a2 a3 a4 a5 a6 a7 : Int) (e : List Int) (L : List S59) (nn oo : List Int) (k : Nat) (d : Nat) : ∀ (s : ByteArray) (j : Nat), xs.length - j = d → j ≤ xs.length → s.size + 2 * d ≤ 1000 →
    aviaryref09_Encode.l0 (d + 1 + k) s xs (j : Int) a0 a1 a2 a3 a4 a5 a6 a7 e L nn oo = (aviaryref09_Flat.f k a0 a1 a2 a3 a4 a5 a6 a7 e L nn oo).bind fun t => ((aviaryref08_Weights.f k t).bind fun u => (if (joinT s (xs.drop j)).size + u.size ≤ 9223372036854775807 then ((aviaryref08_Seal.f k (joinT s (xs.drop j) ++ u)).bind fun v => (some (v, 0))) else (none))) := by
  induction d with
  | zero =>
    intro s j hd hj hs
    rw [show 0 + 1 + k = k + 1 by omega]
    simp only [aviaryref09_Encode.l0]
    rw [if_neg (by omega), List.drop_of_length_le (by omega)]
    rfl
  | succ d ih =>
    intro s j hd hj hs
    rw [show d + 1 + 1 + k = (d + 1 + k) + 1 by omega]
    have hlt : j < xs.length := by omega
    have hr : rd xs (j : Int) = xs[j] := by
      unfold rd
      rw [Int.toNat_natCast, List.getD_eq_getElem?_getD, List.getElem?_eq_getElem hlt]
      rfl
    have hw : wrap64 ((j : Int) + 1) = ((j + 1 : Nat) : Int) := by unfold wrap64; omega
    have hb := hx _ (List.getElem_mem hlt)
    simp only [aviaryref09_Encode.l0, hr, hw, rTwo8_eq hb.1 hb.2, Option.bind_some]
    rw [if_pos (by omega), if_pos (by omega), if_pos (by rw [twoS_size]; omega), ih _ (j + 1) (by omega) (by omega) (by rw [ByteArray.size_append, twoS_size]; omega), List.drop_eq_getElem_cons hlt]
    rfl
theorem rMEncode_eq {k : Nat} (hk : 70000 < k) (a0 a1 a2 a3 a4 a5 a6 a7 : Int) (e : List Int) (L : List S59) (nn o : List Int) : aviaryref09_Encode.f (k + 12) a0 a1 a2 a3 a4 a5 a6 a7 e L nn o = some (encM a0 a1 a2 a3 a4 a5 a6 a7 (chkM a0 a1 a2 a3 a4 a5 a6 a7 e L nn o) (flatM (mx a5 1).toNat e L nn o)) := by
  simp only [aviaryref09_Encode.f, rMCheck_eq (k + 9), aviaryref09_numbers.f, Option.bind_some, encM]
  by_cases h : chkM a0 a1 a2 a3 a4 a5 a6 a7 e L nn o = 0
  · rw [if_pos h, if_pos h]
    have hb := cfg_bounds (chkM_zero h).1
    have h1 := rME_l0 (xs := [a0, a1, a2, a3, a4, a5, a6, a7]) (by intro x hx; simp only [List.mem_cons, List.mem_nil_iff, or_false] at hx; rcases hx with rfl | rfl | rfl | rfl | rfl | rfl | rfl | rfl <;> omega) (by simp) a0 a1 a2 a3 a4 a5 a6 a7 e L nn o (k + 3) 8 (⟨#[65, 86]⟩ : ByteArray) 0 rfl (by omega) (by rw [AV_size]; omega)
    rw [show k + 12 = 8 + 1 + (k + 3) by omega]
    rw [show ((0 : Nat) : Int) = 0 from rfl] at h1
    rw [h1, rMFlat_eq (by omega), Option.bind_some, if_pos h, rWeightsS_eq (show 65535 < k + 3 by omega), Option.bind_some]
    have hj : joinT (⟨#[65, 86]⟩ : ByteArray) (List.drop 0 [a0, a1, a2, a3, a4, a5, a6, a7]) = numsM a0 a1 a2 a3 a4 a5 a6 a7 := rfl
    have hs : (numsM a0 a1 a2 a3 a4 a5 a6 a7 ++ weightsS (flatM (mx a5 1).toNat e L nn o)).size ≤ 65555 := by
      rw [ByteArray.size_append, numsM_size, weightsS_size]
      omega
    rw [hj, if_pos (by rw [ByteArray.size_append] at hs; omega), rSeal_eq (k := k + 3) (s := numsM a0 a1 a2 a3 a4 a5 a6 a7 ++ weightsS (flatM (mx a5 1).toNat e L nn o)) (by omega) (by omega)]
    rfl
  · rw [if_neg h, if_neg h]
theorem sml_l1 {g : S59} {K : Nat} (h0 : g.f0.length < K) (h1 : g.f1.length < K) (h2 : g.f2.length < K) (h3 : g.f3.length < K) (h4 : g.f4.length < K) (h5 : g.f5.length < K) (h6 : g.f6.length < K) (h8 : ∀ r ∈ g.f8, r.length < K) (hK : K ≤ 4611686018427387904) (hb : g.f8.length ≤ 4611686018427387904) (d : Nat) : ∀ (k : Nat) (j : Nat), g.f8.length - j = d → j ≤ g.f8.length → d + K < k →
    aviaryref09_sameLayer.l1 k (j : Int) g.f0 g.f1 g.f2 g.f3 g.f4 g.f5 g.f6 g.f7 g.f8 g.f0 g.f1 g.f2 g.f3 g.f4 g.f5 g.f6 g.f7 g.f8 = some true := by
  induction d with
  | zero =>
    intro k j hd hj hk
    obtain ⟨k, rfl⟩ : ∃ q, k = q + 1 := ⟨k - 1, by omega⟩
    simp only [aviaryref09_sameLayer.l1]
    rw [if_neg (by omega), bSame_eq (by omega) (by omega), bSame_eq (by omega) (by omega), bSame_eq (by omega) (by omega), bSame_eq (by omega) (by omega), bSame_eq (by omega) (by omega), bSame_eq (by omega) (by omega), bSame_eq (by omega) (by omega)]
    simp
  | succ d ih =>
    intro k j hd hj hk
    obtain ⟨k, rfl⟩ : ∃ q, k = q + 1 := ⟨k - 1, by omega⟩
    have hlt : j < g.f8.length := by omega
    have q1 : ((j : Nat) : Int) < (g.f8.length : Int) := by omega
    have q2 : 0 ≤ ((j : Nat) : Int) := by omega
    have q3 : g.f8.length - (j + 1) = d := by omega
    have q4 : d + K < k := by omega
    have r8 : rd_L2 g.f8 (j : Int) = g.f8[j] := by
      unfold rd_L2
      rw [Int.toNat_natCast, List.getD_eq_getElem?_getD, List.getElem?_eq_getElem hlt]
      rfl
    have hr := h8 _ (List.getElem_mem hlt)
    have hw : wrap64 ((j : Int) + 1) = ((j + 1 : Nat) : Int) := by unfold wrap64; omega
    simp only [aviaryref09_sameLayer.l1, r8, hw]
    rw [if_pos q1, if_pos q2, if_pos q1, bSame_eq (by omega) (by omega), Option.bind_some, if_pos (by simp)]
    exact ih k (j + 1) q3 hlt q4
theorem sml_l0 {g : S59} {K : Nat} (h0 : g.f0.length < K) (h1 : g.f1.length < K) (h2 : g.f2.length < K) (h3 : g.f3.length < K) (h4 : g.f4.length < K) (h5 : g.f5.length < K) (h6 : g.f6.length < K) (h7 : ∀ r ∈ g.f7, r.length < K) (h8 : ∀ r ∈ g.f8, r.length < K) (hK : K ≤ 4611686018427387904) (hb7 : g.f7.length ≤ 4611686018427387904) (hb : g.f8.length ≤ 4611686018427387904) (d : Nat) : ∀ (k : Nat) (j : Nat), g.f7.length - j = d → j ≤ g.f7.length → d + 1 + g.f8.length + K < k →
    aviaryref09_sameLayer.l0 k (j : Int) g.f0 g.f1 g.f2 g.f3 g.f4 g.f5 g.f6 g.f7 g.f8 g.f0 g.f1 g.f2 g.f3 g.f4 g.f5 g.f6 g.f7 g.f8 = some true := by
  induction d with
  | zero =>
    intro k j hd hj hk
    obtain ⟨k, rfl⟩ : ∃ q, k = q + 1 := ⟨k - 1, by omega⟩
    simp only [aviaryref09_sameLayer.l0]
    rw [if_neg (by omega)]
    exact sml_l1 h0 h1 h2 h3 h4 h5 h6 h8 hK hb g.f8.length k 0 (by omega) (by omega) (by omega)
  | succ d ih =>
    intro k j hd hj hk
    obtain ⟨k, rfl⟩ : ∃ q, k = q + 1 := ⟨k - 1, by omega⟩
    have hlt : j < g.f7.length := by omega
    have q1 : ((j : Nat) : Int) < (g.f7.length : Int) := by omega
    have q2 : 0 ≤ ((j : Nat) : Int) := by omega
    have q3 : g.f7.length - (j + 1) = d := by omega
    have q4 : d + 1 + g.f8.length + K < k := by omega
    have r8 : rd_L2 g.f7 (j : Int) = g.f7[j] := by
      unfold rd_L2
      rw [Int.toNat_natCast, List.getD_eq_getElem?_getD, List.getElem?_eq_getElem hlt]
      rfl
    have hr := h7 _ (List.getElem_mem hlt)
    have hw : wrap64 ((j : Int) + 1) = ((j + 1 : Nat) : Int) := by unfold wrap64; omega
    simp only [aviaryref09_sameLayer.l0, r8, hw]
    rw [if_pos q1, if_pos q2, if_pos q1, bSame_eq (by omega) (by omega), Option.bind_some, if_pos (by simp)]
    exact ih k (j + 1) q3 hlt q4
theorem sml_eq {g : S59} {K k : Nat} (h0 : g.f0.length < K) (h1 : g.f1.length < K) (h2 : g.f2.length < K) (h3 : g.f3.length < K) (h4 : g.f4.length < K) (h5 : g.f5.length < K) (h6 : g.f6.length < K) (h7 : ∀ r ∈ g.f7, r.length < K) (h8 : ∀ r ∈ g.f8, r.length < K) (hK : K ≤ 4611686018427387904) (hb7 : g.f7.length < K) (hb : g.f8.length < K) (hk : 3 * K + 2 < k) :
    aviaryref09_sameLayer.f k g.f0 g.f1 g.f2 g.f3 g.f4 g.f5 g.f6 g.f7 g.f8 g.f0 g.f1 g.f2 g.f3 g.f4 g.f5 g.f6 g.f7 g.f8 = some true := by
  obtain ⟨k, rfl⟩ : ∃ q, k = q + 1 := ⟨k - 1, by omega⟩
  unfold aviaryref09_sameLayer.f
  rw [if_pos rfl, bne_self_eq_false]
  simp only [aviaryref09_sameLayer.j0]
  rw [if_neg (by simp)]
  exact sml_l0 h0 h1 h2 h3 h4 h5 h6 h7 h8 hK (by omega) (by omega) g.f7.length k 0 (by omega) (by omega) (by omega)
/-- No list of an element has K members. -/
def Lt59 (K : Nat) (g : S59) : Prop := g.f0.length < K ∧ g.f1.length < K ∧ g.f2.length < K ∧ g.f3.length < K ∧ g.f4.length < K ∧ g.f5.length < K ∧ g.f6.length < K ∧ g.f7.length < K ∧ g.f8.length < K ∧ (∀ r ∈ g.f7, r.length < K) ∧ ∀ r ∈ g.f8, r.length < K
theorem sm_l0 {L : List S59} {K : Nat} (hL : ∀ g ∈ L, Lt59 K g) (hK : K ≤ 4611686018427387904) (hb : L.length ≤ 4611686018427387904) (a0 a1 a2 a3 a4 a5 a6 a7 : Int) (e nn o : List Int) (d : Nat) : ∀ (k : Nat) (j : Nat), L.length - j = d → j ≤ L.length → d + 3 * K + 2 < k →
    aviaryref09_Same.l0 k (j : Int) a0 a1 a2 a3 a4 a5 a6 a7 e L nn o a0 a1 a2 a3 a4 a5 a6 a7 e L nn o = some true := by
  induction d with
  | zero =>
    intro k j hd hj hk
    obtain ⟨k, rfl⟩ : ∃ q, k = q + 1 := ⟨k - 1, by omega⟩
    simp only [aviaryref09_Same.l0]
    rw [if_neg (by omega)]
  | succ d ih =>
    intro k j hd hj hk
    obtain ⟨k, rfl⟩ : ∃ q, k = q + 1 := ⟨k - 1, by omega⟩
    have hlt : j < L.length := by omega
    have q1 : ((j : Nat) : Int) < (L.length : Int) := by omega
    have q2 : 0 ≤ ((j : Nat) : Int) := by omega
    have q3 : L.length - (j + 1) = d := by omega
    have q4 : d + 3 * K + 2 < k := by omega
    have hr : rd_T59 L (j : Int) = L[j] := by
      unfold rd_T59
      rw [Int.toNat_natCast, List.getD_eq_getElem?_getD, List.getElem?_eq_getElem hlt]
      rfl
    obtain ⟨h0, h1, h2, h3, h4, h5, h6, h7, h8, h9, h10⟩ := hL _ (List.getElem_mem hlt)
    have hw : wrap64 ((j : Int) + 1) = ((j + 1 : Nat) : Int) := by unfold wrap64; omega
    simp only [aviaryref09_Same.l0, hr, hw]
    rw [if_pos q1, if_pos q2, if_pos q1, sml_eq h0 h1 h2 h3 h4 h5 h6 h9 h10 hK h7 h8 (by omega), Option.bind_some, if_pos rfl]
    exact ih k (j + 1) q3 hlt q4
theorem MSame_true {L : List S59} {K k : Nat} {e nn o : List Int} (hL : ∀ g ∈ L, Lt59 K g) (hK : K ≤ 4611686018427387904) (hb : L.length < K) (he : e.length < K) (hn : nn.length < K) (ho : o.length < K) (hk : 4 * K + 3 < k) (a0 a1 a2 a3 a4 a5 a6 a7 : Int) :
    aviaryref09_Same.f k a0 a1 a2 a3 a4 a5 a6 a7 e L nn o a0 a1 a2 a3 a4 a5 a6 a7 e L nn o = some true := by
  obtain ⟨k, rfl⟩ : ∃ q, k = q + 1 := ⟨k - 1, by omega⟩
  unfold aviaryref09_Same.f
  rw [if_neg (by simp), bSame_eq (by omega) (by omega), bSame_eq (by omega) (by omega), bSame_eq (by omega) (by omega)]
  simp only [Option.bind_some, decide_true, if_true, bne_self_eq_false, aviaryref09_Same.j0]
  rw [if_neg (by simp)]
  exact sm_l0 hL hK (by omega) a0 a1 a2 a3 a4 a5 a6 a7 e nn o L.length k 0 (by omega) (by omega) (by omega)
/-- What is known of a model that came in. -/
def Good8 (l : List Int) : Prop := l.length * 1 ≤ reachBytes ∧ ∀ v ∈ l, (Lit.int .i8 v).wf = true
def Good57 (l : List (List Int)) : Prop := l.length * 24 ≤ reachBytes ∧ ∀ r ∈ l, Good8 r
def Good59 (g : S59) : Prop := Good8 g.f0 ∧ Good8 g.f1 ∧ Good8 g.f2 ∧ Good8 g.f3 ∧ Good8 g.f4 ∧ Good8 g.f5 ∧ Good8 g.f6 ∧ Good57 g.f7 ∧ Good57 g.f8
theorem Good8.lt {l : List Int} (h : Good8 l) : l.length < 140737488355328 := by
  have := h.1
  simp only [reachBytes] at this
  omega
theorem Good57.lt {l : List (List Int)} (h : Good57 l) : l.length < 5864062014805 := by
  have := h.1
  simp only [reachBytes] at this
  omega
theorem own_ok {e nn o : List Int} {L : List S59} (hz : L.length ≤ 20) (he : Good8 e) (hl : ∀ g ∈ L, Good59 g) (hn : Good8 nn) (ho : Good8 o) : ownOk e L nn o := by
  refine ⟨hz, he.lt, hn.lt, ho.lt, fun g hg => ?_⟩
  obtain ⟨h0, h1, h2, h3, h4, h5, h6, h7, h8⟩ := hl g hg
  exact ⟨h0.lt, h1.lt, h2.lt, h3.lt, h4.lt, h5.lt, h6.lt, h7.lt, h8.lt, fun r hr => (h7.2 r hr).lt, fun r hr => (h8.2 r hr).lt⟩

theorem CkptChecks (a0 a1 a2 a3 a4 a5 a6 a7 : Int) (e : List Int) (L : List S59) (nn o : List Int) (h0 : (Lit.int .i64 a0).wf = true) (h1 : (Lit.int .i64 a1).wf = true) (h2 : (Lit.int .i64 a2).wf = true) (h3 : (Lit.int .i64 a3).wf = true) (h4 : (Lit.int .i64 a4).wf = true) (h5 : (Lit.int .i64 a5).wf = true) (h6 : (Lit.int .i64 a6).wf = true) (h7 : (Lit.int .i64 a7).wf = true) (he : Good8 e) (hlen : L.length * 216 ≤ reachBytes) (hl : ∀ g ∈ L, Good59 g) (hn : Good8 nn) (ho : Good8 o) :
    ∃ k, aviarylaw09_CkptChecks.f k a0 a1 a2 a3 a4 a5 a6 a7 e L nn o = some true := by
  refine ⟨562949953421400 + 12, ?_⟩
  unfold aviarylaw09_CkptChecks.f
  by_cases hz : (L.length : Int) > 20
  · rw [if_pos hz]
  · rw [if_neg hz]
    have hown : aviarylaw09_Own.f a0 a1 a2 a3 a4 a5 a6 a7 e L nn o = some (a0, a1, a2, a3, a4, a5, a6, a7, e, L, nn, o) := by
      unfold aviarylaw09_Own.f
      rw [if_pos (own_ok (by omega) he hl hn ho)]
    have hF := MFlat_eq (562949953421400 + 9) a0 a1 a2 a3 a4 a5 a6 a7 e L nn o
    have hrF := rMFlat_eq (k := 562949953421400 + 9) (by omega) a0 a1 a2 a3 a4 a5 a6 a7 e L nn o
    have hE := MEncode_eq (k := 562949953421400 + 9) (by omega) a0 a1 a2 a3 a4 a5 a6 a7 e L nn o
    have hrE := rMEncode_eq (k := 562949953421400) (by omega) a0 a1 a2 a3 a4 a5 a6 a7 e L nn o
    have hC := MCheck_eq (562949953421400 + 9) a0 a1 a2 a3 a4 a5 a6 a7 e L nn o
    have hrC := rMCheck_eq (562949953421400 + 9) a0 a1 a2 a3 a4 a5 a6 a7 e L nn o
    have hb8 : ∀ {l : List Int}, Good8 l → l.length < 140737488355328 := fun h => h.lt
    have hS := MSame_true (K := 140737488355328) (k := 562949953421400 + 12) (e := e) (nn := nn) (o := o) (L := L) (fun g hg => by
      obtain ⟨q0, q1, q2, q3, q4, q5, q6, q7, q8⟩ := hl g hg
      have q9 := q7.lt
      have q10 := q8.lt
      exact ⟨q0.lt, q1.lt, q2.lt, q3.lt, q4.lt, q5.lt, q6.lt, by omega, by omega, fun r hr => (q7.2 r hr).lt, fun r hr => (q8.2 r hr).lt⟩) (by omega) (by omega) he.lt hn.lt ho.lt (by omega) a0 a1 a2 a3 a4 a5 a6 a7
    have hs : (if chkM a0 a1 a2 a3 a4 a5 a6 a7 e L nn o = 0 then flatM (mx a5 1).toNat e L nn o else []).length ≤ 2000 := by
      split
      · rename_i h; exact (chkM_small h).2.2.2.2
      · simp
    simp only [hown, Option.bind_some]
    rw [hE, Option.bind_some, hrE, Option.bind_some, hC, Option.bind_some, hrC, Option.bind_some, if_pos rfl, hF, Option.bind_some, hrF, Option.bind_some, bSame_eq (by omega) (by omega), Option.bind_some, if_pos (by simp), if_pos rfl, if_pos rfl, hS]
    rfl

end Go.Proofs.Ytdlinhegmplgiaa.Pure
