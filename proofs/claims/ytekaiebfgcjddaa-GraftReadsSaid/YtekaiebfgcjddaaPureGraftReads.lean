/- Any bytes are read by the program as by the reference as an adapter for any configuration, or refused alike. No condition. -/
import Derived.Test.YtekaiebfgcjddaaPGraftReadsx9
import Derived.Test.YtekaiebfgcjddaaMSat
import Derived.Test.YtekaiebfgcjddaaMVec
import Derived.Test.YtekaiebfgcjddaaMBytes
set_option linter.unusedVariables false
set_option linter.unusedSimpArgs false
namespace Go.Proofs.Ytekaiebfgcjddaa.Pure
open Go Go.RowKit Go.Proofs.Ytekaiebfgcjddaa.PGraftReads Go.Proofs.YtekaiebfgcjddaaW.PrintWords Go.Proofs.YtekaiebfgcjddaaW.PrintLast Go.Proofs.Ytekaiebfgcjddaa.Mth
def wB (n l h : Int) : Bool := decide (l ≤ n) && decide (n ≤ h)
def restB (a2 a3 a4 a7 : Int) : Bool := wB a2 1 2 && (wB a3 2 16 && (wB a4 1 8 && wB a7 0 16))
def mixB (a5 a6 : Int) : Bool := (decide (a5 = 0) && decide (a6 = 0)) || (wB a5 2 4 && wB a6 1 a5)
def headB (a0 a1 : Int) : Bool := wB a0 2 8 && (wB a1 1 a0 && (decide (Int.tdiv a0 a1 * a1 = a0) && decide (Int.tmod (Int.tdiv a0 a1) 2 = 0)))
def cfgB (a0 a1 a2 a3 a4 a5 a6 a7 : Int) : Bool := headB a0 a1 && (mixB a5 a6 && restB a2 a3 a4 a7)
theorem within_eq (n l h : Int) : ckpt_within.f n l h = some (wB n l h) := by
  unfold ckpt_within.f wB
  by_cases hh : l ≤ n
  · rw [if_pos hh]; simp [hh]
  · rw [if_neg hh]; simp [hh]
theorem j2_eq (k : Nat) (x : Bool) (a0 a1 a2 a3 a4 a5 a6 a7 : Int) : ckpt_Config.j2 (k + 1) x a0 a1 a2 a3 a4 a5 a6 a7 = some (x && restB a2 a3 a4 a7) := by
  simp only [ckpt_Config.j2, within_eq, Option.bind_some, restB]
  cases x <;> cases wB a2 1 2 <;> cases wB a3 2 16 <;> cases wB a4 1 8 <;> cases wB a7 0 16 <;> rfl
theorem j1_eq (k : Nat) (x : Bool) (a0 a1 a2 a3 a4 a5 a6 a7 : Int) : ckpt_Config.j1 (k + 2) x a0 a1 a2 a3 a4 a5 a6 a7 = some (!x && (mixB a5 a6 && restB a2 a3 a4 a7)) := by
  simp only [ckpt_Config.j1, within_eq, Option.bind_some, j2_eq, mixB]
  by_cases h5 : a5 = 0
  · by_cases h6 : a6 = 0
    · cases x <;> simp [h5, h6]
    · cases x <;> cases wB a5 2 4 <;> cases wB a6 1 a5 <;> cases restB a2 a3 a4 a7 <;> simp [h6]
  · cases x <;> cases wB a5 2 4 <;> cases wB a6 1 a5 <;> cases restB a2 a3 a4 a7 <;> simp [h5]
theorem fin_ (a0 a1 : Int) (h1 : 2 ≤ a0) (h2 : a0 ≤ 8) (h3 : 1 ≤ a1) (h4 : a1 ≤ a0) : wrap64 (Int.tdiv a0 a1) = Int.tdiv a0 a1 ∧ wrap64 (Int.tdiv a0 a1 * a1) = Int.tdiv a0 a1 * a1 ∧
    (decide (Int.tdiv a0 a1 * a1 = a0) && decide (Int.tmod (Int.tdiv a0 a1) 2 = 0)) = (decide (Int.tmod a0 2 = 0) && (wB a1 1 4 && (decide (Int.tmod a0 a1 = 0) && decide (Int.tmod (Int.tdiv a0 a1) 2 = 0)))) := by
  obtain rfl | rfl | rfl | rfl | rfl | rfl | rfl : a0 = 2 ∨ a0 = 3 ∨ a0 = 4 ∨ a0 = 5 ∨ a0 = 6 ∨ a0 = 7 ∨ a0 = 8 := by omega
  all_goals
    obtain rfl | rfl | rfl | rfl | rfl | rfl | rfl | rfl : a1 = 1 ∨ a1 = 2 ∨ a1 = 3 ∨ a1 = 4 ∨ a1 = 5 ∨ a1 = 6 ∨ a1 = 7 ∨ a1 = 8 := by omega
    all_goals first | (exfalso; omega) | (decide +kernel)
theorem Config_eq (k : Nat) (a0 a1 a2 a3 a4 a5 a6 a7 : Int) : ckpt_Config.f (k + 3) a0 a1 a2 a3 a4 a5 a6 a7 = some (cfgB a0 a1 a2 a3 a4 a5 a6 a7) := by
  simp only [ckpt_Config.f, within_eq, Option.bind_some, ckpt_Config.j0, j1_eq]
  unfold cfgB headB
  cases e0 : wB a0 2 8 with
  | false => simp
  | true =>
    cases e1 : wB a1 1 a0 with
    | false => simp
    | true =>
      have b0 := e0
      have b1 := e1
      simp only [wB, Bool.and_eq_true, decide_eq_true_eq] at b0 b1
      obtain ⟨f1, f2, _⟩ := fin_ a0 a1 b0.1 b0.2 b1.1 b1.2
      rw [f1, f2]
      have hne : a1 ≠ 0 := by omega
      by_cases c : Int.tdiv a0 a1 * a1 = a0
      · by_cases c2 : Int.tmod (Int.tdiv a0 a1) 2 = 0 <;> simp [c, c2, hne]
      · simp [c, hne]
theorem in_eq (n l h : Int) : aviaryref09_in.f n l h = some (wB n l h) := by
  unfold aviaryref09_in.f wB
  by_cases hh : l ≤ n
  · rw [if_pos hh]; simp [hh]
  · rw [if_neg hh]; simp [hh]
theorem rj1_eq (k : Nat) (x : Bool) (a0 a1 a2 a3 a4 a5 a6 a7 : Int) : aviaryref09_Config.j1 (k + 1) x a0 a1 a2 a3 a4 a5 a6 a7 = some (x && restB a2 a3 a4 a7) := by
  simp only [aviaryref09_Config.j1, in_eq, Option.bind_some, restB]
  cases x <;> cases wB a2 1 2 <;> cases wB a3 2 16 <;> cases wB a4 1 8 <;> cases wB a7 0 16 <;> rfl
theorem rj0_eq (k : Nat) (x : Bool) (a0 a1 a2 a3 a4 a5 a6 a7 : Int) : aviaryref09_Config.j0 (k + 2) x a0 a1 a2 a3 a4 a5 a6 a7 = some (!x && (mixB a5 a6 && restB a2 a3 a4 a7)) := by
  simp only [aviaryref09_Config.j0, in_eq, Option.bind_some, rj1_eq, mixB]
  by_cases h5 : a5 = 0
  · by_cases h6 : a6 = 0
    · cases x <;> simp [h5, h6]
    · cases x <;> cases wB a5 2 4 <;> cases wB a6 1 a5 <;> cases restB a2 a3 a4 a7 <;> simp [h6]
  · cases x <;> cases wB a5 2 4 <;> cases wB a6 1 a5 <;> cases restB a2 a3 a4 a7 <;> simp [h5]
theorem rConfig_eq (k : Nat) (a0 a1 a2 a3 a4 a5 a6 a7 : Int) : aviaryref09_Config.f (k + 3) a0 a1 a2 a3 a4 a5 a6 a7 = some (cfgB a0 a1 a2 a3 a4 a5 a6 a7) := by
  simp only [aviaryref09_Config.f, in_eq, Option.bind_some, rj0_eq]
  unfold cfgB headB
  cases e0 : wB a0 2 8 with
  | false => simp
  | true =>
    have b0 := e0
    simp only [wB, Bool.and_eq_true, decide_eq_true_eq] at b0
    cases e4 : wB a1 1 4 with
    | false =>
      cases e1 : wB a1 1 a0 with
      | false => by_cases c : Int.tmod a0 2 = 0 <;> simp [c]
      | true =>
        have b1 := e1
        simp only [wB, Bool.and_eq_true, decide_eq_true_eq] at b1
        obtain ⟨_, _, f3⟩ := fin_ a0 a1 b0.1 b0.2 b1.1 b1.2
        rw [f3, e4]
        by_cases c : Int.tmod a0 2 = 0 <;> simp [c]
    | true =>
      have b4 := e4
      simp only [wB, Bool.and_eq_true, decide_eq_true_eq] at b4
      have hne : a1 ≠ 0 := by omega
      cases e1 : wB a1 1 a0 with
      | false =>
        have g : a0 < a1 := by
          simp only [wB, Bool.and_eq_false_iff, decide_eq_false_iff_not] at e1
          omega
        have g2 : Int.tmod a0 a1 ≠ 0 := by
          rw [Int.tmod_eq_of_lt (by omega) g]
          omega
        by_cases c : Int.tmod a0 2 = 0 <;> simp [c, g2, hne]
      | true =>
        have b1 := e1
        simp only [wB, Bool.and_eq_true, decide_eq_true_eq] at b1
        obtain ⟨f1, _, f3⟩ := fin_ a0 a1 b0.1 b0.2 b1.1 b1.2
        rw [f3, f1, e4]
        by_cases c : Int.tmod a0 2 = 0
        · by_cases c2 : Int.tmod a0 a1 = 0
          · by_cases c3 : Int.tmod (Int.tdiv a0 a1) 2 = 0 <;> simp [c, c2, c3, hne]
          · simp [c, c2, hne]
        · simp [c]
theorem cfg_bounds {a0 a1 a2 a3 a4 a5 a6 a7 : Int} (h : cfgB a0 a1 a2 a3 a4 a5 a6 a7 = true) : (2 ≤ a0 ∧ a0 ≤ 8) ∧ (1 ≤ a1 ∧ a1 ≤ 8) ∧ (1 ≤ a2 ∧ a2 ≤ 2) ∧ (2 ≤ a3 ∧ a3 ≤ 16) ∧ (1 ≤ a4 ∧ a4 ≤ 8) ∧ (0 ≤ a5 ∧ a5 ≤ 4) ∧ (0 ≤ a6 ∧ a6 ≤ 4) ∧ (0 ≤ a7 ∧ a7 ≤ 16) := by
  simp only [cfgB, headB, mixB, restB, wB, Bool.and_eq_true, Bool.or_eq_true, decide_eq_true_eq] at h
  omega
theorem bSame_l0 {a b : List Int} (hl : a.length = b.length) (hb : a.length ≤ 4611686018427387904) (d : Nat) : ∀ (k : Nat) (i : Int), 0 ≤ i → (a.length : Int) - i = d → d < k →
    aviaryref08_Same.l0 k a b i = some (decide (a.drop i.toNat = b.drop i.toNat)) := by
  induction d with
  | zero =>
    intro k i h0 hd hk
    obtain ⟨k, rfl⟩ : ∃ m, k = m + 1 := ⟨k - 1, by omega⟩
    simp only [aviaryref08_Same.l0]
    rw [if_neg (by omega), drop_len (by omega), drop_len (by omega)]
    simp
  | succ d ih =>
    intro k i h0 hd hk
    obtain ⟨k, rfl⟩ : ∃ m, k = m + 1 := ⟨k - 1, by omega⟩
    simp only [aviaryref08_Same.l0]
    rw [if_pos (by omega), if_pos h0, if_pos (by omega), drop_rd (l := a) h0 (by omega), drop_rd (l := b) h0 (by omega)]
    by_cases c : rd a i = rd b i
    · rw [if_pos c, wrap64_id (x := i + 1) (by omega) (by omega), ih k (i + 1) (by omega) (by omega) (by omega), c]
      simp
    · rw [if_neg c]
      simp [c]
theorem bSame_eq {k : Nat} {a b : List Int} (hb : a.length ≤ 4611686018427387904) (hk : a.length < k) : aviaryref08_Same.f k a b = some (decide (a = b)) := by
  unfold aviaryref08_Same.f
  by_cases c : a.length = b.length
  · rw [if_pos (by omega), bSame_l0 c hb a.length k 0 (by omega) (by omega) hk]
    rfl
  · rw [if_neg (by omega)]
    have : a ≠ b := fun h => c (by rw [h])
    simp [this]
theorem take_bad {k : Nat} {s : ByteArray} {e n : Int} (he : e ≠ 0) (hk : 0 < k) : bytes_rest_take.f k s e n = some ((⟨#[]⟩ : ByteArray), false, s, e) := by
  obtain ⟨k, rfl⟩ : ∃ m, k = m + 1 := ⟨k - 1, by omega⟩
  unfold bytes_rest_take.f
  simp [bytes_rest_take.j0, he]
theorem take_short {k : Nat} {s : ByteArray} {n : Int} (hn : n > s.size) (hk : 0 < k) : bytes_rest_take.f k s 0 n = some ((⟨#[]⟩ : ByteArray), false, s, 22) := by
  obtain ⟨k, rfl⟩ : ∃ m, k = m + 1 := ⟨k - 1, by omega⟩
  unfold bytes_rest_take.f
  rw [if_pos rfl, decide_eq_true hn]
  simp [bytes_rest_take.j0]
theorem take_ok {k : Nat} {s : ByteArray} {n : Int} (h0 : 0 ≤ n) (hn : n ≤ s.size) (hk : 0 < k) : bytes_rest_take.f k s 0 n = some (s.extract 0 n.toNat, true, s.extract n.toNat s.size, 0) := by
  obtain ⟨k, rfl⟩ : ∃ m, k = m + 1 := ⟨k - 1, by omega⟩
  unfold bytes_rest_take.f
  rw [if_pos rfl, decide_eq_false (by omega)]
  simp only [bytes_rest_take.j0]
  rw [if_neg (by simp), if_pos trivial, if_pos h0, if_pos hn]
theorem Two_eq {k : Nat} {s : ByteArray} {e : Int} (hk : 0 < k) : bytes_Reader_Two.f k s e = some (twoR s e) := by
  unfold bytes_Reader_Two.f twoR
  by_cases c : e = 0
  · subst c
    by_cases c2 : s.size < 2
    · rw [take_short (by omega) hk, if_pos rfl, if_pos c2]
      rfl
    · have z : (s.extract 0 (2 : Int).toNat).size = 2 := by
        rw [ByteArray.size_extract]; show min 2 s.size - 0 = 2; omega
      rw [take_ok (by omega) (by omega) hk, if_pos rfl, if_neg c2]
      simp only [Option.bind_some]
      rw [if_pos trivial, z, if_pos (by omega), if_pos (by omega)]
      have b0 : bt (s.extract 0 (2 : Int).toNat) 0 = bt s 0 := bt_extract (by decide) (by decide) (by show 2 ≤ s.size; omega)
      have b1 : bt (s.extract 0 (2 : Int).toNat) 1 = bt s 1 := bt_extract (by decide) (by decide) (by show 2 ≤ s.size; omega)
      have r0 := bt_range s 0
      have r1 := bt_range s 1
      rw [b0, b1, wrap64_id (by omega) (by omega), wrap64_id (x := bt s 1) (by omega) (by omega), wrap64_id (x := bt s 1 * 256) (by omega) (by omega), or_bytes r0.1 r0.2 r1.1 r1.2]
      rfl
  · rw [take_bad c hk, if_neg c]
    rfl
theorem rTwo_eq {s : ByteArray} {e : Int} (hs : s.size ≤ 4611686018427387904) : aviaryref08_Reader_Two.f s e = some (twoR s e) := by
  unfold aviaryref08_Reader_Two.f twoR
  by_cases c : e = 0
  · subst c
    by_cases c2 : s.size < 2
    · rw [if_pos rfl, if_pos (by omega), if_pos rfl, if_pos c2]
    · have r0 := bt_range s 0
      have r1 := bt_range s 1
      rw [if_pos rfl, if_neg (by omega), if_pos rfl, if_neg c2, if_pos (by omega), if_pos (by omega), if_pos (by omega), wrap64_id (x := bt s 0) (by omega) (by omega), wrap64_id (x := bt s 1) (by omega) (by omega), wrap64_id (x := 256 * bt s 1) (by omega) (by omega), wrap64_id (by omega) (by omega), Int.mul_comm]
  · rw [if_neg c, if_neg c]
theorem bW_l0 {s : ByteArray} {n : Nat} (t : ByteArray) (e : Int) (hn : n ≤ s.size) (hb : n ≤ 4611686018427387904) (d : Nat) : ∀ (k : Nat) (i : Int), 0 ≤ i → (n : Int) - i = d → d < k →
    bytes_Reader_Weights.l0 k (s.extract 0 n) (fillI (i8s s n) i) n i t e = some (i8s s n, t, e) := by
  have hL := i8s_len s n
  have z : (s.extract 0 n).size = n := by rw [ByteArray.size_extract]; omega
  induction d with
  | zero =>
    intro k i h0 hd hk
    obtain ⟨k, rfl⟩ : ∃ m, k = m + 1 := ⟨k - 1, by omega⟩
    simp only [bytes_Reader_Weights.l0]
    rw [if_neg (by omega), fillI_end (by omega)]
  | succ d ih =>
    intro k i h0 hd hk
    obtain ⟨k, rfl⟩ : ∃ m, k = m + 1 := ⟨k - 1, by omega⟩
    have b : bt (s.extract 0 n) i = bt s i := by
      have h := bt_extract (s := s) (a := 0) (b := n) (i := i) h0 (by omega) hn
      rw [h]; simp
    simp only [bytes_Reader_Weights.l0]
    rw [if_pos (by omega), if_pos h0, z, if_pos (by omega), if_pos (by rw [fillI_len (by omega)]; omega), b, ← i8s_rd s (n := n) h0 (by omega), fillI_set h0 (by omega), wrap64_id (x := i + 1) (by omega) (by omega)]
    exact ih k (i + 1) (by omega) (by omega) (by omega)
theorem Weights_eq {k : Nat} {s : ByteArray} {e n : Int} (hk : 65540 < k) : bytes_Reader_Weights.f k s e n = some (weightsR s e n) := by
  obtain ⟨k, rfl⟩ : ∃ m, k = m + 1 := ⟨k - 1, by omega⟩
  have hr := twoR_range s e
  unfold bytes_Reader_Weights.f
  rw [Two_eq (by omega)]
  simp only [Option.bind_some]
  unfold weightsR
  generalize twoR s e = t at hr
  obtain ⟨c, s1, e1⟩ := t
  simp only at hr ⊢
  have bad : ∀ x : Int, x ≠ 0 → bytes_Reader_Weights.j1 k c s1 x = some ([], s1, x) := by
    intro x hx
    obtain ⟨k, rfl⟩ : ∃ m, k = m + 1 := ⟨k - 1, by omega⟩
    simp only [bytes_Reader_Weights.j1]
    rw [take_bad hx (by omega)]
    rfl
  by_cases ce : e1 = 0
  · subst ce
    by_cases cn : c = n
    · subst cn
      obtain ⟨m, rfl⟩ := Int.eq_ofNat_of_zero_le hr.1
      rw [if_pos rfl, if_pos rfl, if_pos rfl]
      simp only [bytes_Reader_Weights.j0, bne_self_eq_false, Bool.false_eq_true, if_false]
      obtain ⟨k, rfl⟩ : ∃ m, k = m + 1 := ⟨k - 1, by omega⟩
      simp only [bytes_Reader_Weights.j1]
      by_cases cs : (s1.size : Int) < m
      · rw [take_short (by omega) (by omega), if_pos cs]
        rfl
      · rw [take_ok (by omega) (by omega) (by omega), if_neg cs]
        simp only [Option.bind_some, if_true]
        have e : List.replicate ((m : Int)).toNat (0 : Int) = fillI (i8s s1 m) 0 := by rw [fillI_zero, i8s_len]; rfl
        rw [if_pos (by omega), if_pos (by omega), e, fillI_len (by rw [i8s_len]; omega), i8s_len]
        exact bW_l0 _ _ (by omega) (by omega) m k 0 (by omega) (by omega) (by omega)
    · have hb : (c != n) = true := by simpa using cn
      rw [if_pos rfl, if_pos rfl, if_neg cn, hb]
      simp only [bytes_Reader_Weights.j0, if_true]
      exact bad 21 (by decide)
  · rw [if_neg ce, if_neg ce]
    simp only [bytes_Reader_Weights.j0, Bool.false_eq_true, if_false]
    exact bad e1 ce
theorem rW_l0 {s : ByteArray} {n : Nat} (e : Int) (hn : n ≤ s.size) (hb : n ≤ 65535) (d : Nat) : ∀ (k : Nat) (i : Int), 0 ≤ i → (n : Int) - i = d → d < k →
    aviaryref08_Reader_Weights.l0 k n ((i8s s n).take i.toNat) i s e = some (i8s s n, s.extract n s.size, e) := by
  have hL := i8s_len s n
  induction d with
  | zero =>
    intro k i h0 hd hk
    obtain ⟨k, rfl⟩ : ∃ m, k = m + 1 := ⟨k - 1, by omega⟩
    simp only [aviaryref08_Reader_Weights.l0]
    rw [if_neg (by omega), if_pos (by omega), if_pos (by omega), take_len (by omega)]
    rfl
  | succ d ih =>
    intro k i h0 hd hk
    obtain ⟨k, rfl⟩ : ∃ m, k = m + 1 := ⟨k - 1, by omega⟩
    simp only [aviaryref08_Reader_Weights.l0]
    rw [if_pos (by omega), if_pos h0, if_pos (by omega), if_pos (by rw [List.length_take]; omega), ← i8s_rd s (n := n) h0 (by omega), take_rd h0 (by omega), wrap64_id (x := i + 1) (by omega) (by omega)]
    exact ih k (i + 1) (by omega) (by omega) (by omega)
theorem rWeights_eq {k : Nat} {s : ByteArray} {e n : Int} (hs : s.size ≤ 4611686018427387904) (hn : 0 ≤ n) (hk : 65540 < k) : aviaryref08_Reader_Weights.f k s e n = some (weightsR s e n) := by
  have hr := twoR_range s e
  have hz := twoR_size s e
  unfold aviaryref08_Reader_Weights.f
  rw [rTwo_eq hs]
  simp only [Option.bind_some]
  unfold weightsR
  generalize twoR s e = t at hr hz
  obtain ⟨c, s1, e1⟩ := t
  simp only at hr hz ⊢
  by_cases ce : e1 = 0
  · subst ce
    rw [if_pos rfl, if_pos rfl]
    by_cases cn : c = n
    · subst cn
      obtain ⟨m, rfl⟩ := Int.eq_ofNat_of_zero_le hn
      rw [if_pos rfl, if_pos rfl]
      by_cases cs : (s1.size : Int) < m
      · rw [if_pos cs, if_pos cs]
      · rw [if_neg cs, if_neg cs]
        exact rW_l0 0 (by omega) (by omega) m k 0 (by omega) (by omega) (by omega)
    · rw [if_neg cn, if_neg cn]
  · rw [if_neg ce, if_neg ce]
theorem End_eq {s : ByteArray} {e : Int} : bytes_Reader_End.f s e = some (endR s e, s, e) := by
  unfold bytes_Reader_End.f endR
  by_cases c : e = 0
  · subst c
    by_cases c2 : s.size = 0
    · rw [if_pos rfl, if_pos ((nil_size s).2 c2), if_pos rfl, if_pos c2]
    · rw [if_pos rfl, if_neg (fun h => c2 ((nil_size s).1 h)), if_pos rfl, if_neg c2]
  · rw [if_neg c, if_neg c]
theorem rEnd_eq {s : ByteArray} {e : Int} : aviaryref08_Reader_End.f s e = some (endR s e, s, e) := by
  unfold aviaryref08_Reader_End.f endR
  by_cases c : e = 0
  · subst c
    by_cases c2 : s.size = 0
    · rw [if_pos rfl, if_pos ((nil_size s).2 c2), if_pos rfl, if_pos c2]
    · rw [if_pos rfl, if_neg (fun h => c2 ((nil_size s).1 h)), if_pos rfl, if_neg c2]
  · rw [if_neg c, if_neg c]
theorem Sum_l0 {L : List Int} (hr : ∀ x ∈ L, 0 ≤ x ∧ x ≤ 255) (hb : L.length ≤ 4611686018427387904) (d : Nat) : ∀ (k : Nat) (a b i : Int), 0 ≤ i → (L.length : Int) - i = d → d < k → 0 ≤ a → a ≤ 254 → 0 ≤ b → b ≤ 254 →
    bytes_Sum.l0 k L a b i = some (sumL (L.drop i.toNat) a b) := by
  induction d with
  | zero =>
    intro k a b i h0 hd hk ha0 ha1 hb0 hb1
    obtain ⟨k, rfl⟩ : ∃ m, k = m + 1 := ⟨k - 1, by omega⟩
    simp only [bytes_Sum.l0]
    rw [if_neg (by omega), drop_len (by omega), wrap64_id (x := 256 * b) (by omega) (by omega), wrap64_id (by omega) (by omega)]
    rfl
  | succ d ih =>
    intro k a b i h0 hd hk ha0 ha1 hb0 hb1
    obtain ⟨k, rfl⟩ : ∃ m, k = m + 1 := ⟨k - 1, by omega⟩
    have hc := hr _ (rd_mem (l := L) h0 (by omega))
    simp only [bytes_Sum.l0]
    rw [if_pos (by omega), if_pos h0, wrap64_id (x := rd L i) (by omega) (by omega), wrap64_id (x := a + rd L i) (by omega) (by omega), Int.tmod_eq_emod_of_nonneg (a := a + rd L i) (by omega), wrap64_id (x := b + (a + rd L i) % 255) (by omega) (by omega), Int.tmod_eq_emod_of_nonneg (by omega), wrap64_id (x := i + 1) (by omega) (by omega), drop_rd (l := L) h0 (by omega)]
    exact ih k _ _ (i + 1) (by omega) (by omega) (by omega) (by omega) (by omega) (by omega) (by omega)
theorem Sum_eq {k : Nat} {s : ByteArray} (hb : s.size ≤ 4611686018427387904) (hk : s.size < k) : bytes_Sum.f k s = some (sumR s) := by
  unfold bytes_Sum.f
  rw [if_pos hb]
  exact Sum_l0 bytesOf_range (by rw [bytesOf_length]; exact hb) s.size k 0 0 0 (by omega) (by rw [bytesOf_length]; omega) hk (by omega) (by omega) (by omega) (by omega)
theorem bTwo_eq (n : Int) : bytes_Two.f n = some (twoS n) := rfl
theorem Open_eq {k : Nat} {s : ByteArray} (hb : s.size ≤ 4611686018427387904) (hk : s.size < k) : bytes_Open.f k s = some (openR s) := by
  unfold bytes_Open.f openR
  rw [wrap64_id (x := (s.size : Int) - 2) (by omega) (by omega)]
  by_cases c : s.size < 2
  · rw [if_pos (by omega), if_pos c]
  · have e : ((s.size : Int) - 2).toNat = s.size - 2 := by omega
    have z : (s.extract 0 (s.size - 2)).size ≤ s.size := by rw [ByteArray.size_extract]; omega
    rw [if_neg (by omega), if_pos (by omega), if_pos (by omega), if_neg c, e, Sum_eq (by omega) (by omega)]
    simp only [Option.bind_some, bTwo_eq]
    by_cases c2 : s.extract (s.size - 2) s.size = twoS (sumR (s.extract 0 (s.size - 2)))
    · rw [if_pos (same_bytes.2 c2), if_pos c2]
    · rw [if_neg (fun h => c2 (same_bytes.1 h)), if_neg c2]
theorem rTwo8_eq {a : Int} (h0 : -9223372036854775808 ≤ a) (h1 : a ≤ 9223372036854775807) : aviaryref08_Two.f a = some (twoS a) := by
  unfold aviaryref08_Two.f twoS
  have hs := tdiv_split a 65536 (by decide)
  have b0 := Int.lt_tmod_of_pos a (b := 65536) (by decide)
  have b1 := Int.tmod_lt_of_pos a (b := 65536) (by decide)
  generalize Int.tmod a 65536 = t at hs b0 b1
  generalize Int.tdiv a 65536 = q at hs
  have e1 : wrap64 (t + 65536) = t + 65536 := wrap64_id (by omega) (by omega)
  have e2 : Int.tmod (t + 65536) 65536 = a % 65536 := by rw [Int.tmod_eq_emod_of_nonneg (by omega)]; omega
  rw [e1, e2, Int.tmod_eq_emod_of_nonneg (by omega), Int.tdiv_eq_ediv_of_nonneg (by omega), wrap64_id (by omega) (by omega)]
  have e3 : a % 65536 % 256 % 256 = a % 256 := by omega
  have e4 : a % 65536 / 256 % 256 = a / 256 % 256 := by omega
  rw [e3, e4]
theorem rSum_l0 {s : ByteArray} (hb : s.size ≤ 4611686018427387904) (d : Nat) : ∀ (k : Nat) (a b i : Int), 0 ≤ i → (s.size : Int) - i = d → d < k → 0 ≤ a → a ≤ 254 → 0 ≤ b → b ≤ 254 →
    aviaryref08_Sum.l0 k s a b i = some (sumL ((bytesOf s).drop i.toNat) a b) := by
  have hL := bytesOf_length s
  induction d with
  | zero =>
    intro k a b i h0 hd hk ha0 ha1 hb0 hb1
    obtain ⟨k, rfl⟩ : ∃ m, k = m + 1 := ⟨k - 1, by omega⟩
    simp only [aviaryref08_Sum.l0]
    rw [if_neg (by omega), drop_len (by omega), wrap64_id (x := 256 * b) (by omega) (by omega), wrap64_id (by omega) (by omega)]
    rfl
  | succ d ih =>
    intro k a b i h0 hd hk ha0 ha1 hb0 hb1
    obtain ⟨k, rfl⟩ : ∃ m, k = m + 1 := ⟨k - 1, by omega⟩
    have hc := bt_range s i
    simp only [aviaryref08_Sum.l0]
    rw [if_pos (by omega), if_pos h0, wrap64_id (x := bt s i) (by omega) (by omega), wrap64_id (x := a + bt s i) (by omega) (by omega), Int.tmod_eq_emod_of_nonneg (a := a + bt s i) (by omega), wrap64_id (x := b + (a + bt s i) % 255) (by omega) (by omega), Int.tmod_eq_emod_of_nonneg (by omega), wrap64_id (x := i + 1) (by omega) (by omega), drop_rd (l := bytesOf s) h0 (by omega), rd_bytesOf]
    exact ih k _ _ (i + 1) (by omega) (by omega) (by omega) (by omega) (by omega) (by omega) (by omega)
theorem rSum_eq {k : Nat} {s : ByteArray} (hb : s.size ≤ 4611686018427387904) (hk : s.size < k) : aviaryref08_Sum.f k s = some (sumR s) := by
  unfold aviaryref08_Sum.f
  exact rSum_l0 hb s.size k 0 0 0 (by omega) (by omega) hk (by omega) (by omega) (by omega) (by omega)
theorem sumL_range : ∀ (l : List Int) (a b : Int), 0 ≤ a → a ≤ 254 → 0 ≤ b → b ≤ 254 → 0 ≤ sumL l a b ∧ sumL l a b ≤ 65278
  | [], a, b, _, _, _, _ => by simp only [sumL]; omega
  | c :: l, a, b, _, _, _, _ => sumL_range l _ _ (by omega) (by omega) (by omega) (by omega)
theorem rSeal_eq {k : Nat} {s : ByteArray} (hb : s.size ≤ 4611686018427387904) (hk : s.size < k) : aviaryref08_Seal.f k s = some (sealR s) := by
  have h := sumL_range (bytesOf s) 0 0 (by omega) (by omega) (by omega) (by omega)
  unfold aviaryref08_Seal.f
  rw [rSum_eq hb hk]
  simp only [Option.bind_some]
  rw [rTwo8_eq (by unfold sumR; omega) (by unfold sumR; omega)]
  simp only [Option.bind_some]
  rw [twoS_size, if_pos (by omega)]
  rfl
theorem rOpen_eq {k : Nat} {s : ByteArray} (hb : s.size ≤ 4611686018427387904) (hk : s.size < k) : aviaryref08_Open.f k s = some (openR s) := by
  unfold aviaryref08_Open.f openR
  by_cases c : s.size < 2
  · rw [if_pos (by omega), if_pos c]
  · have e : ((s.size : Int) - 2).toNat = s.size - 2 := by omega
    have z : (s.extract 0 (s.size - 2)).size ≤ s.size := by rw [ByteArray.size_extract]; omega
    rw [if_neg (by omega), wrap64_id (x := (s.size : Int) - 2) (by omega) (by omega), if_pos (by omega), if_pos (by omega), if_neg c, e, rSeal_eq (by omega) (by omega)]
    simp only [Option.bind_some]
    have cut := cut_bytes (s := s) (n := s.size - 2) (by omega)
    by_cases c2 : s.extract (s.size - 2) s.size = twoS (sumR (s.extract 0 (s.size - 2)))
    · rw [if_pos (same_bytes.2 (by unfold sealR; rw [← c2]; exact cut)), if_pos c2]
    · rw [if_neg (fun h : (sealR (s.extract 0 (s.size - 2))).toList = s.toList => c2 (append_inj (cut.trans (same_bytes.1 h).symm))), if_neg c2]
def rightB (a0 a1 b0 b1 b2 b3 b4 b5 b6 b7 : Int) : Bool := cfgB b0 b1 b2 b3 b4 b5 b6 b7 && (wB a0 1 4 && wB a1 0 8)
theorem right_eq (k : Nat) (a0 a1 b0 b1 b2 b3 b4 b5 b6 b7 : Int) : graft_right.f (k + 3) a0 a1 b0 b1 b2 b3 b4 b5 b6 b7 = some (rightB a0 a1 b0 b1 b2 b3 b4 b5 b6 b7) := by
  simp only [graft_right.f, Config_eq, Option.bind_some, rightB]
  cases cfgB b0 b1 b2 b3 b4 b5 b6 b7
  · simp
  · simp only [wB, if_true, Bool.true_and]
    by_cases h1 : 1 ≤ a0
    · by_cases h2 : a0 ≤ 4
      · by_cases h3 : 0 ≤ a1
        · simp [h1, h2, h3]
        · simp [h1, h2, h3]
      · simp [h1, h2]
    · simp [h1]
theorem right_bounds {a0 a1 b0 b1 b2 b3 b4 b5 b6 b7 : Int} (h : rightB a0 a1 b0 b1 b2 b3 b4 b5 b6 b7 = true) : (1 ≤ a0 ∧ a0 ≤ 4) ∧ (0 ≤ a1 ∧ a1 ≤ 8) ∧ (2 ≤ b0 ∧ b0 ≤ 8) ∧ (1 ≤ b2 ∧ b2 ≤ 2) ∧ 2 ≤ a0 * b0 ∧ a0 * b0 ≤ 32 := by
  simp only [rightB, Bool.and_eq_true] at h
  have hc := cfg_bounds h.1
  have hw := h.2
  simp only [wB, Bool.and_eq_true, decide_eq_true_eq] at hw
  refine ⟨hw.1, hw.2, hc.1, hc.2.2.1, ?_⟩
  obtain ⟨⟨h1, h2⟩, _⟩ := hw
  obtain ⟨⟨h3, h4⟩, _⟩ := hc
  obtain rfl | rfl | rfl | rfl : a0 = 1 ∨ a0 = 2 ∨ a0 = 3 ∨ a0 = 4 := by omega
  all_goals omega
theorem ranges_eq (k : Nat) (a0 a1 b0 b1 b2 b3 b4 b5 b6 b7 : Int) : aviaryref10_ranges.f (k + 3) a0 a1 b0 b1 b2 b3 b4 b5 b6 b7 = some (rightB a0 a1 b0 b1 b2 b3 b4 b5 b6 b7) := by
  rw [← right_eq k]
  simp only [graft_right.f, aviaryref10_ranges.f, Config_eq, rConfig_eq, Option.bind_some]
/-- What Shape answers. -/
def shapeR (a0 a1 b0 b2 : Int) (right : Bool) (l : List Int) : Int × Int × List S59 × Int :=
  if right = true then (if (l.length : Int) = b2 * 4 * (a0 * b0) then (a0, a1, shape59 b2.toNat (a0 * b0).toNat l, 0) else (0, 0, [], 21)) else (0, 0, [], 20)
theorem size_wrap {a0 b0 b2 : Int} (h1 : 1 ≤ b2 ∧ b2 ≤ 2) (h2 : 2 ≤ a0 * b0 ∧ a0 * b0 ≤ 32) : wrap64 (wrap64 (b2 * 4) * wrap64 (a0 * b0)) = b2 * 4 * (a0 * b0) := by
  rw [show wrap64 (b2 * 4) = b2 * 4 by unfold wrap64; omega, show wrap64 (a0 * b0) = a0 * b0 by unfold wrap64; omega]
  obtain rfl | rfl : b2 = 1 ∨ b2 = 2 := by omega
  all_goals unfold wrap64; omega
theorem Shape_eq (k : Nat) (a0 a1 b0 b1 b2 b3 b4 b5 b6 b7 : Int) (l : List Int) : graft_Shape.f (k + 3) a0 a1 b0 b1 b2 b3 b4 b5 b6 b7 l = some (shapeR a0 a1 b0 b2 (rightB a0 a1 b0 b1 b2 b3 b4 b5 b6 b7) l) := by
  simp only [graft_Shape.f, right_eq, Option.bind_some, shapeR]
  cases e : rightB a0 a1 b0 b1 b2 b3 b4 b5 b6 b7
  · simp
  · obtain ⟨_, _, _, h4, h5⟩ := right_bounds e
    rw [size_wrap h4 h5]
    simp only [if_true]
    by_cases hl : (l.length : Int) = b2 * 4 * (a0 * b0)
    · rw [if_pos hl, if_pos hl, if_pos (by omega)]
    · rw [if_neg hl, if_neg hl]
theorem rShape_eq (k : Nat) (a0 a1 b0 b1 b2 b3 b4 b5 b6 b7 : Int) (l : List Int) : aviaryref10_Shape.f (k + 3) a0 a1 b0 b1 b2 b3 b4 b5 b6 b7 l = some (shapeR a0 a1 b0 b2 (rightB a0 a1 b0 b1 b2 b3 b4 b5 b6 b7) l) := by
  rw [← Shape_eq k]
  simp only [graft_Shape.f, aviaryref10_Shape.f, right_eq, ranges_eq, Option.bind_some]
theorem gSame_true (l : List S59) (x0 x1 : Int) : aviaryref10_Same.f x0 x1 l x0 x1 l = some true := by
  simp [aviaryref10_Same.f, eqL59_refl]
def pre2 (t : ByteArray) (a b : UInt8) : Bool := decide (2 ≤ t.size) && decide (t.extract 0 2 = ⟨#[a, b]⟩)
theorem CutPrefix_eq (t : ByteArray) (a b : UInt8) : strings_CutPrefix.f t (⟨#[a, b]⟩ : ByteArray) = some (if pre2 t a b = true then (t.extract 2 t.size, true) else (t, false)) := by
  unfold strings_CutPrefix.f stringslite_CutPrefix.f stringslite_HasPrefix.f
  have hz : ((⟨#[a, b]⟩ : ByteArray).size : Int) = 2 := rfl
  simp only [hz]
  by_cases h : 2 ≤ t.size
  · rw [if_pos (by omega), if_pos (by omega), if_pos (by omega)]
    simp only [Option.bind_some]
    by_cases hp : t.extract 0 2 = ⟨#[a, b]⟩
    · have h1 : ((t.extract 0 ((2 : Int).toNat)).toList == (⟨#[a, b]⟩ : ByteArray).toList) = true := by
        rw [beq_iff_eq]; exact same_bytes.2 hp
      rw [h1, if_pos rfl, if_pos (by omega), if_pos (by omega)]
      simp [pre2, h, hp]
    · have h1 : ((t.extract 0 ((2 : Int).toNat)).toList == (⟨#[a, b]⟩ : ByteArray).toList) = false := by
        rw [beq_eq_false_iff_ne]; exact fun e => hp (same_bytes.1 e)
      rw [h1, if_neg (by simp)]
      simp [pre2, h, hp]
  · rw [if_neg (by omega)]
    simp [pre2, h]
theorem openR_size (s : ByteArray) : (openR s).1.size ≤ s.size := by
  unfold openR
  split
  · exact Nat.zero_le _
  · split
    · rw [ByteArray.size_extract]; omega
    · exact Nat.zero_le _
theorem weightsR_ok {s : ByteArray} {e n : Int} (hn : 0 ≤ n) (h : (weightsR s e n).2.2 = 0) : ((weightsR s e n).1.length : Int) = n := by
  unfold weightsR at h ⊢
  split at h
  · rename_i c
    rw [if_pos c]
    split at h
    · rename_i c2
      rw [if_pos c2]
      split at h
      · simp at h
      · rename_i c3
        rw [if_neg c3, i8s_len]
        omega
    · simp at h
  · rename_i c
    exact absurd h c
/-- What Decode answers. -/
def gBad : Int × Int × List S59 × Int := (0, 0, [], 1)
def gDec2 (t : ByteArray) (b0 b1 b2 b3 b4 b5 b6 b7 : Int) : Int × Int × List S59 × Int :=
  let q := twoR t 0
  let p := twoR q.2.1 q.2.2
  let w := weightsR p.2.1 p.2.2 (b2 * 4 * (q.1 * b0))
  if rightB q.1 p.1 b0 b1 b2 b3 b4 b5 b6 b7 = true then (if endR w.2.1 w.2.2 = 0 then (q.1, p.1, shape59 b2.toNat (q.1 * b0).toNat w.1, 0) else gBad) else gBad
def gDecR (s : ByteArray) (b0 b1 b2 b3 b4 b5 b6 b7 : Int) : Int × Int × List S59 × Int :=
  if s.size ≤ 16384 ∧ (openR s).2 = 0 ∧ pre2 (openR s).1 71 82 = true then gDec2 ((openR s).1.extract 2 (openR s).1.size) b0 b1 b2 b3 b4 b5 b6 b7 else gBad
theorem wrap_three {a0 b0 b2 : Int} (h1 : 1 ≤ b2 ∧ b2 ≤ 2) (h0 : 1 ≤ a0 ∧ a0 ≤ 4) (h2 : 2 ≤ b0 ∧ b0 ≤ 8) : wrap64 (wrap64 (wrap64 (b2 * 4) * a0) * b0) = b2 * 4 * (a0 * b0) ∧ 0 ≤ b2 * 4 * (a0 * b0) := by
  rw [show wrap64 (b2 * 4) = b2 * 4 by unfold wrap64; omega]
  obtain rfl | rfl : b2 = 1 ∨ b2 = 2 := by omega
  all_goals
    obtain rfl | rfl | rfl | rfl : a0 = 1 ∨ a0 = 2 ∨ a0 = 3 ∨ a0 = 4 := by omega
    all_goals
      constructor
      · simp only [Int.reduceMul]
        unfold wrap64
        omega
      · omega
theorem endR_zero {s : ByteArray} {e : Int} (h : endR s e = 0) : e = 0 := by
  unfold endR at h
  split at h
  · assumption
  · exact h
theorem Decode_j0 {k : Nat} (t : ByteArray) (b0 b1 b2 b3 b4 b5 b6 b7 : Int) (hk : 65540 < k) : graft_Decode.j0 (k + 4) t false b0 b1 b2 b3 b4 b5 b6 b7 = some (gDec2 t b0 b1 b2 b3 b4 b5 b6 b7) := by
  have hr := right_eq k
  have hs := Shape_eq k
  simp only [graft_Decode.j0, bytes_NewReader.f, Option.bind_some, Bool.false_eq_true, if_false, Two_eq (show 0 < k + 3 by omega), hr, hs, Weights_eq (show 65540 < k + 3 by omega), End_eq]
  unfold gDec2
  generalize twoR t 0 = q
  simp only
  generalize twoR q.2.1 q.2.2 = p
  cases e : rightB q.1 p.1 b0 b1 b2 b3 b4 b5 b6 b7
  · simp [gBad]
  · obtain ⟨h1, _, h3, h4, h5⟩ := right_bounds e
    obtain ⟨hw, hw0⟩ := wrap_three h4 h1 h3
    simp only [if_true, hw]
    generalize hW : weightsR p.2.1 p.2.2 (b2 * 4 * (q.1 * b0)) = w
    by_cases hE : endR w.2.1 w.2.2 = 0
    · have hl : (w.1.length : Int) = b2 * 4 * (q.1 * b0) := by rw [← hW]; exact weightsR_ok hw0 (by rw [hW]; exact endR_zero hE)
      simp [shapeR, hl, hE]
    · simp [hE, gBad]
theorem Decode_eq {k : Nat} (s : ByteArray) (b0 b1 b2 b3 b4 b5 b6 b7 : Int) (hb : s.size ≤ 4611686018427387904) (hk : 65540 + s.size < k) : graft_Decode.f (k + 4) s b0 b1 b2 b3 b4 b5 b6 b7 = some (gDecR s b0 b1 b2 b3 b4 b5 b6 b7) := by
  have hbad : ∀ t, graft_Decode.j0 (k + 4) t true b0 b1 b2 b3 b4 b5 b6 b7 = some gBad := fun t => by simp [graft_Decode.j0, gBad]
  have hgood : ∀ t, graft_Decode.j0 (k + 4) t false b0 b1 b2 b3 b4 b5 b6 b7 = some (gDec2 t b0 b1 b2 b3 b4 b5 b6 b7) := fun t => Decode_j0 t _ _ _ _ _ _ _ _ (by omega)
  simp only [graft_Decode.f, Open_eq hb (show s.size < k + 4 by omega), Option.bind_some, CutPrefix_eq]
  unfold gDecR
  by_cases h1 : s.size ≤ 16384
  · have h1' : ¬ ((s.size : Int) > 16384) := by omega
    by_cases h2 : (openR s).2 = 0
    · cases h3 : pre2 (openR s).1 71 82
      · simp [h1', h2, hbad]
      · simp [h1, h1', h2, hgood]
    · simp [h1', h2, hbad]
  · have h1' : (s.size : Int) > 16384 := by omega
    simp [h1, h1', hbad]
theorem rDecode_j0 {k : Nat} (t : ByteArray) (b0 b1 b2 b3 b4 b5 b6 b7 : Int) (ht : 2 ≤ t.size) (hb : t.size ≤ 4611686018427387904) (hk : 65540 < k) : aviaryref10_Decode.j0 (k + 4) t false b0 b1 b2 b3 b4 b5 b6 b7 = some (gDec2 (t.extract 2 t.size) b0 b1 b2 b3 b4 b5 b6 b7) := by
  have hr := ranges_eq k
  have hs := rShape_eq k
  have hz : (t.extract 2 t.size).size ≤ 4611686018427387904 := by rw [extract_size]; omega
  have hz2 := Nat.le_trans (twoR_size (t.extract 2 t.size) 0) hz
  simp only [aviaryref10_Decode.j0, Bool.false_eq_true, if_false]
  rw [if_pos (by omega), rTwo_eq hz]
  simp only [Option.bind_some]
  unfold gDec2
  generalize twoR (t.extract 2 t.size) 0 = q at hz2 ⊢
  rw [rTwo_eq hz2]
  have hz3 := Nat.le_trans (twoR_size q.2.1 q.2.2) hz2
  simp only [Option.bind_some, hr]
  generalize twoR q.2.1 q.2.2 = p at hz3 ⊢
  cases e : rightB q.1 p.1 b0 b1 b2 b3 b4 b5 b6 b7
  · simp [gBad]
  · obtain ⟨h1, _, h3, h4, h5⟩ := right_bounds e
    obtain ⟨hw, hw0⟩ := wrap_three h4 h1 h3
    simp only [if_true, hw]
    rw [rWeights_eq hz3 hw0 (by omega)]
    simp only [Option.bind_some, rEnd_eq, hs]
    generalize hW : weightsR p.2.1 p.2.2 (b2 * 4 * (q.1 * b0)) = w
    by_cases hE : endR w.2.1 w.2.2 = 0
    · have hl : (w.1.length : Int) = b2 * 4 * (q.1 * b0) := by rw [← hW]; exact weightsR_ok hw0 (by rw [hW]; exact endR_zero hE)
      simp [shapeR, hl, hE, e]
    · simp [hE, gBad]
theorem GR_list : (⟨#[71, 82]⟩ : ByteArray).toList = ([71, 82] : List UInt8) := by decide +kernel
theorem gDec2_cfg (t : ByteArray) {b0 b1 b2 b3 b4 b5 b6 b7 : Int} (h : cfgB b0 b1 b2 b3 b4 b5 b6 b7 = false) : gDec2 t b0 b1 b2 b3 b4 b5 b6 b7 = gBad := by
  simp [gDec2, rightB, h]
theorem rDecode_eq {k : Nat} (s : ByteArray) (b0 b1 b2 b3 b4 b5 b6 b7 : Int) (hb : s.size ≤ 4611686018427387904) (hk : 65540 + s.size < k) : aviaryref10_Decode.f (k + 4) s b0 b1 b2 b3 b4 b5 b6 b7 = some (gDecR s b0 b1 b2 b3 b4 b5 b6 b7) := by
  have hbad : ∀ t, aviaryref10_Decode.j0 (k + 4) t true b0 b1 b2 b3 b4 b5 b6 b7 = some gBad := fun t => by simp [aviaryref10_Decode.j0, gBad]
  have hc := rConfig_eq (k + 1)
  simp only [aviaryref10_Decode.f, rOpen_eq hb (show s.size < k + 4 by omega), Option.bind_some, hc]
  unfold gDecR
  by_cases h2 : (openR s).2 = 0
  · rw [if_pos h2]
    cases e : cfgB b0 b1 b2 b3 b4 b5 b6 b7
    · rw [if_neg (by simp), hbad, gDec2_cfg _ e, ite_self]
    · rw [if_pos rfl]
      by_cases h1 : s.size ≤ 16384
      · rw [if_neg (by omega)]
        by_cases h4 : 2 ≤ (openR s).1.size
        · rw [if_neg (by omega), if_pos (by omega)]
          by_cases h5 : (openR s).1.extract 0 2 = ⟨#[71, 82]⟩
          · have h6 : (((openR s).1.extract 0 2).toList != ([71, 82] : List UInt8)) = false := by
              rw [bne_eq_false_iff_eq, ← GR_list]; exact same_bytes.2 h5
            rw [h6, if_pos ⟨h1, h2, by simp [pre2, h4, h5]⟩]
            exact rDecode_j0 _ _ _ _ _ _ _ _ _ h4 (Nat.le_trans (openR_size s) hb) (by omega)
          · have h6 : (((openR s).1.extract 0 2).toList != ([71, 82] : List UInt8)) = true := by
              rw [bne_iff_ne, ← GR_list]; exact fun e => h5 (same_bytes.1 e)
            rw [h6, hbad, if_neg (fun h => by have := h.2.2; simp [pre2, h5] at this)]
        · rw [if_pos (by omega), hbad, if_neg (fun h => by have := h.2.2; simp [pre2, h4] at this)]
      · rw [if_pos (by omega), hbad, if_neg (fun h => h1 h.1)]
  · rw [if_neg h2, hbad, if_neg (fun h => h2 h.2.1)]

theorem GraftReads (s : ByteArray) (b0 b1 b2 b3 b4 b5 b6 b7 : Int) (hs : s.size ≤ 140737488351232) : ∃ k, aviarylaw10_GraftReads.f k s b0 b1 b2 b3 b4 b5 b6 b7 = some true := by
  refine ⟨65540 + s.size + 1000 + 4, ?_⟩
  have h1 := Decode_eq (k := 65540 + s.size + 1000) s b0 b1 b2 b3 b4 b5 b6 b7 (by omega) (by omega)
  have h2 := rDecode_eq (k := 65540 + s.size + 1000) s b0 b1 b2 b3 b4 b5 b6 b7 (by omega) (by omega)
  unfold aviarylaw10_GraftReads.f
  by_cases hz : (s.size : Int) > 40000
  · rw [if_pos hz]
  · rw [if_neg hz, h1]
    simp only [Option.bind_some]
    rw [h2]
    simp only [Option.bind_some]
    rw [gSame_true]
    simp

end Go.Proofs.Ytekaiebfgcjddaa.Pure
