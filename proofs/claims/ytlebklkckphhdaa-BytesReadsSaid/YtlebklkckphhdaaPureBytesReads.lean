/- Whatever is read from any text, in any order, numbers and weights, is the same by the program's reader as by the reference's, and so is what End tells. No condition. -/
import Derived.Test.YtlebklkckphhdaaPBytesReadsx3
import Derived.Test.YtlebklkckphhdaaMSat
import Derived.Test.YtlebklkckphhdaaMVec
import Derived.Test.YtlebklkckphhdaaMBytes
set_option linter.unusedVariables false
set_option linter.unusedSimpArgs false
namespace Go.Proofs.Ytlebklkckphhdaa.Pure
open Go Go.RowKit Go.Proofs.Ytlebklkckphhdaa.PBytesReads Go.Proofs.YtlebklkckphhdaaW.PrintWords Go.Proofs.YtlebklkckphhdaaW.PrintLast Go.Proofs.Ytlebklkckphhdaa.Mth
theorem bSame_l0 {a b : List Int} (hl : a.length = b.length) (hb : a.length ≤ 4611686018427387904) (d : Nat) : ∀ (k : Nat) (i : Int), 0 ≤ i → (a.length : Int) - i = d → d < k →
    aviaryref08_Same.l0 k a b i = some (decide (a.drop i.toNat = b.drop i.toNat)) := by
  induction d with
  | zero =>
    intro k i h0 hd hk
    obtain ⟨k, rfl⟩ : ∃ m, k = m + 1 := ⟨k - 1, by omega⟩
    simp only [aviaryref08_Same.l0]
    rw [if_neg (by omega), drop_len (by omega), drop_len (by omega)]
    simp
  | succ d ih =>
    intro k i h0 hd hk
    obtain ⟨k, rfl⟩ : ∃ m, k = m + 1 := ⟨k - 1, by omega⟩
    simp only [aviaryref08_Same.l0]
    rw [if_pos (by omega), if_pos h0, if_pos (by omega), drop_rd (l := a) h0 (by omega), drop_rd (l := b) h0 (by omega)]
    by_cases c : rd a i = rd b i
    · rw [if_pos c, wrap64_id (x := i + 1) (by omega) (by omega), ih k (i + 1) (by omega) (by omega) (by omega), c]
      simp
    · rw [if_neg c]
      simp [c]
theorem bSame_eq {k : Nat} {a b : List Int} (hb : a.length ≤ 4611686018427387904) (hk : a.length < k) : aviaryref08_Same.f k a b = some (decide (a = b)) := by
  unfold aviaryref08_Same.f
  by_cases c : a.length = b.length
  · rw [if_pos (by omega), bSame_l0 c hb a.length k 0 (by omega) (by omega) hk]
    rfl
  · rw [if_neg (by omega)]
    have : a ≠ b := fun h => c (by rw [h])
    simp [this]
theorem take_bad {k : Nat} {s : ByteArray} {e n : Int} (he : e ≠ 0) (hk : 0 < k) : bytes_rest_take.f k s e n = some ((⟨#[]⟩ : ByteArray), false, s, e) := by
  obtain ⟨k, rfl⟩ : ∃ m, k = m + 1 := ⟨k - 1, by omega⟩
  unfold bytes_rest_take.f
  simp [bytes_rest_take.j0, he]
theorem take_short {k : Nat} {s : ByteArray} {n : Int} (hn : n > s.size) (hk : 0 < k) : bytes_rest_take.f k s 0 n = some ((⟨#[]⟩ : ByteArray), false, s, 22) := by
  obtain ⟨k, rfl⟩ : ∃ m, k = m + 1 := ⟨k - 1, by omega⟩
  unfold bytes_rest_take.f
  rw [if_pos rfl, decide_eq_true hn]
  simp [bytes_rest_take.j0]
theorem take_ok {k : Nat} {s : ByteArray} {n : Int} (h0 : 0 ≤ n) (hn : n ≤ s.size) (hk : 0 < k) : bytes_rest_take.f k s 0 n = some (s.extract 0 n.toNat, true, s.extract n.toNat s.size, 0) := by
  obtain ⟨k, rfl⟩ : ∃ m, k = m + 1 := ⟨k - 1, by omega⟩
  unfold bytes_rest_take.f
  rw [if_pos rfl, decide_eq_false (by omega)]
  simp only [bytes_rest_take.j0]
  rw [if_neg (by simp), if_pos trivial, if_pos h0, if_pos hn]
theorem Two_eq {k : Nat} {s : ByteArray} {e : Int} (hk : 0 < k) : bytes_Reader_Two.f k s e = some (twoR s e) := by
  unfold bytes_Reader_Two.f twoR
  by_cases c : e = 0
  · subst c
    by_cases c2 : s.size < 2
    · rw [take_short (by omega) hk, if_pos rfl, if_pos c2]
      rfl
    · have z : (s.extract 0 (2 : Int).toNat).size = 2 := by
        rw [ByteArray.size_extract]; show min 2 s.size - 0 = 2; omega
      rw [take_ok (by omega) (by omega) hk, if_pos rfl, if_neg c2]
      simp only [Option.bind_some]
      rw [if_pos trivial, z, if_pos (by omega), if_pos (by omega)]
      have b0 : bt (s.extract 0 (2 : Int).toNat) 0 = bt s 0 := bt_extract (by decide) (by decide) (by show 2 ≤ s.size; omega)
      have b1 : bt (s.extract 0 (2 : Int).toNat) 1 = bt s 1 := bt_extract (by decide) (by decide) (by show 2 ≤ s.size; omega)
      have r0 := bt_range s 0
      have r1 := bt_range s 1
      rw [b0, b1, wrap64_id (by omega) (by omega), wrap64_id (x := bt s 1) (by omega) (by omega), wrap64_id (x := bt s 1 * 256) (by omega) (by omega), or_bytes r0.1 r0.2 r1.1 r1.2]
      rfl
  · rw [take_bad c hk, if_neg c]
    rfl
theorem rTwo_eq {s : ByteArray} {e : Int} (hs : s.size ≤ 4611686018427387904) : aviaryref08_Reader_Two.f s e = some (twoR s e) := by
  unfold aviaryref08_Reader_Two.f twoR
  by_cases c : e = 0
  · subst c
    by_cases c2 : s.size < 2
    · rw [if_pos rfl, if_pos (by omega), if_pos rfl, if_pos c2]
    · have r0 := bt_range s 0
      have r1 := bt_range s 1
      rw [if_pos rfl, if_neg (by omega), if_pos rfl, if_neg c2, if_pos (by omega), if_pos (by omega), if_pos (by omega), wrap64_id (x := bt s 0) (by omega) (by omega), wrap64_id (x := bt s 1) (by omega) (by omega), wrap64_id (x := 256 * bt s 1) (by omega) (by omega), wrap64_id (by omega) (by omega), Int.mul_comm]
  · rw [if_neg c, if_neg c]
theorem bW_l0 {s : ByteArray} {n : Nat} (t : ByteArray) (e : Int) (hn : n ≤ s.size) (hb : n ≤ 4611686018427387904) (d : Nat) : ∀ (k : Nat) (i : Int), 0 ≤ i → (n : Int) - i = d → d < k →
    bytes_Reader_Weights.l0 k (s.extract 0 n) (fillI (i8s s n) i) n i t e = some (i8s s n, t, e) := by
  have hL := i8s_len s n
  have z : (s.extract 0 n).size = n := by rw [ByteArray.size_extract]; omega
  induction d with
  | zero =>
    intro k i h0 hd hk
    obtain ⟨k, rfl⟩ : ∃ m, k = m + 1 := ⟨k - 1, by omega⟩
    simp only [bytes_Reader_Weights.l0]
    rw [if_neg (by omega), fillI_end (by omega)]
  | succ d ih =>
    intro k i h0 hd hk
    obtain ⟨k, rfl⟩ : ∃ m, k = m + 1 := ⟨k - 1, by omega⟩
    have b : bt (s.extract 0 n) i = bt s i := by
      have h := bt_extract (s := s) (a := 0) (b := n) (i := i) h0 (by omega) hn
      rw [h]; simp
    simp only [bytes_Reader_Weights.l0]
    rw [if_pos (by omega), if_pos h0, z, if_pos (by omega), if_pos (by rw [fillI_len (by omega)]; omega), b, ← i8s_rd s (n := n) h0 (by omega), fillI_set h0 (by omega), wrap64_id (x := i + 1) (by omega) (by omega)]
    exact ih k (i + 1) (by omega) (by omega) (by omega)
theorem Weights_eq {k : Nat} {s : ByteArray} {e n : Int} (hk : 65540 < k) : bytes_Reader_Weights.f k s e n = some (weightsR s e n) := by
  obtain ⟨k, rfl⟩ : ∃ m, k = m + 1 := ⟨k - 1, by omega⟩
  have hr := twoR_range s e
  unfold bytes_Reader_Weights.f
  rw [Two_eq (by omega)]
  simp only [Option.bind_some]
  unfold weightsR
  generalize twoR s e = t at hr
  obtain ⟨c, s1, e1⟩ := t
  simp only at hr ⊢
  have bad : ∀ x : Int, x ≠ 0 → bytes_Reader_Weights.j1 k c s1 x = some ([], s1, x) := by
    intro x hx
    obtain ⟨k, rfl⟩ : ∃ m, k = m + 1 := ⟨k - 1, by omega⟩
    simp only [bytes_Reader_Weights.j1]
    rw [take_bad hx (by omega)]
    rfl
  by_cases ce : e1 = 0
  · subst ce
    by_cases cn : c = n
    · subst cn
      obtain ⟨m, rfl⟩ := Int.eq_ofNat_of_zero_le hr.1
      rw [if_pos rfl, if_pos rfl, if_pos rfl]
      simp only [bytes_Reader_Weights.j0, bne_self_eq_false, Bool.false_eq_true, if_false]
      obtain ⟨k, rfl⟩ : ∃ m, k = m + 1 := ⟨k - 1, by omega⟩
      simp only [bytes_Reader_Weights.j1]
      by_cases cs : (s1.size : Int) < m
      · rw [take_short (by omega) (by omega), if_pos cs]
        rfl
      · rw [take_ok (by omega) (by omega) (by omega), if_neg cs]
        simp only [Option.bind_some, if_true]
        have e : List.replicate ((m : Int)).toNat (0 : Int) = fillI (i8s s1 m) 0 := by rw [fillI_zero, i8s_len]; rfl
        rw [if_pos (by omega), if_pos (by omega), e, fillI_len (by rw [i8s_len]; omega), i8s_len]
        exact bW_l0 _ _ (by omega) (by omega) m k 0 (by omega) (by omega) (by omega)
    · have hb : (c != n) = true := by simpa using cn
      rw [if_pos rfl, if_pos rfl, if_neg cn, hb]
      simp only [bytes_Reader_Weights.j0, if_true]
      exact bad 21 (by decide)
  · rw [if_neg ce, if_neg ce]
    simp only [bytes_Reader_Weights.j0, Bool.false_eq_true, if_false]
    exact bad e1 ce
theorem rW_l0 {s : ByteArray} {n : Nat} (e : Int) (hn : n ≤ s.size) (hb : n ≤ 65535) (d : Nat) : ∀ (k : Nat) (i : Int), 0 ≤ i → (n : Int) - i = d → d < k →
    aviaryref08_Reader_Weights.l0 k n ((i8s s n).take i.toNat) i s e = some (i8s s n, s.extract n s.size, e) := by
  have hL := i8s_len s n
  induction d with
  | zero =>
    intro k i h0 hd hk
    obtain ⟨k, rfl⟩ : ∃ m, k = m + 1 := ⟨k - 1, by omega⟩
    simp only [aviaryref08_Reader_Weights.l0]
    rw [if_neg (by omega), if_pos (by omega), if_pos (by omega), take_len (by omega)]
    rfl
  | succ d ih =>
    intro k i h0 hd hk
    obtain ⟨k, rfl⟩ : ∃ m, k = m + 1 := ⟨k - 1, by omega⟩
    simp only [aviaryref08_Reader_Weights.l0]
    rw [if_pos (by omega), if_pos h0, if_pos (by omega), if_pos (by rw [List.length_take]; omega), ← i8s_rd s (n := n) h0 (by omega), take_rd h0 (by omega), wrap64_id (x := i + 1) (by omega) (by omega)]
    exact ih k (i + 1) (by omega) (by omega) (by omega)
theorem rWeights_eq {k : Nat} {s : ByteArray} {e n : Int} (hs : s.size ≤ 4611686018427387904) (hn : 0 ≤ n) (hk : 65540 < k) : aviaryref08_Reader_Weights.f k s e n = some (weightsR s e n) := by
  have hr := twoR_range s e
  have hz := twoR_size s e
  unfold aviaryref08_Reader_Weights.f
  rw [rTwo_eq hs]
  simp only [Option.bind_some]
  unfold weightsR
  generalize twoR s e = t at hr hz
  obtain ⟨c, s1, e1⟩ := t
  simp only at hr hz ⊢
  by_cases ce : e1 = 0
  · subst ce
    rw [if_pos rfl, if_pos rfl]
    by_cases cn : c = n
    · subst cn
      obtain ⟨m, rfl⟩ := Int.eq_ofNat_of_zero_le hn
      rw [if_pos rfl, if_pos rfl]
      by_cases cs : (s1.size : Int) < m
      · rw [if_pos cs, if_pos cs]
      · rw [if_neg cs, if_neg cs]
        exact rW_l0 0 (by omega) (by omega) m k 0 (by omega) (by omega) (by omega)
    · rw [if_neg cn, if_neg cn]
  · rw [if_neg ce, if_neg ce]
theorem End_eq {s : ByteArray} {e : Int} : bytes_Reader_End.f s e = some (endR s e, s, e) := by
  unfold bytes_Reader_End.f endR
  by_cases c : e = 0
  · subst c
    by_cases c2 : s.size = 0
    · rw [if_pos rfl, if_pos ((nil_size s).2 c2), if_pos rfl, if_pos c2]
    · rw [if_pos rfl, if_neg (fun h => c2 ((nil_size s).1 h)), if_pos rfl, if_neg c2]
  · rw [if_neg c, if_neg c]
theorem rEnd_eq {s : ByteArray} {e : Int} : aviaryref08_Reader_End.f s e = some (endR s e, s, e) := by
  unfold aviaryref08_Reader_End.f endR
  by_cases c : e = 0
  · subst c
    by_cases c2 : s.size = 0
    · rw [if_pos rfl, if_pos ((nil_size s).2 c2), if_pos rfl, if_pos c2]
    · rw [if_pos rfl, if_neg (fun h => c2 ((nil_size s).1 h)), if_pos rfl, if_neg c2]
  · rw [if_neg c, if_neg c]

theorem reads_l0 {l : List Int} (hb : l.length ≤ 4611686018427387904) (d : Nat) : ∀ (k : Nat) (i : Int) (s : ByteArray) (e : Int), 0 ≤ i → 50 - i ≤ d → s.size ≤ 4611686018427387904 → 65600 + 3 * d < k →
    aviarylaw08_BytesReads.l0 k l i s e s e = some true := by
  induction d with
  | zero =>
    intro k i s e h0 hd hs hk
    obtain ⟨k, rfl⟩ : ∃ m, k = m + 1 + 1 := ⟨k - 2, by omega⟩
    simp only [aviarylaw08_BytesReads.l0]
    have e1 : decide (i < 50) = false := decide_eq_false (by omega)
    rw [e1]
    split <;> (simp only [aviarylaw08_BytesReads.j1]; rw [End_eq, rEnd_eq]; simp)
  | succ d ih =>
    intro k i s e h0 hd hs hk
    obtain ⟨k, rfl⟩ : ∃ m, k = m + 1 + 1 + 1 := ⟨k - 3, by omega⟩
    have step : ∀ (s1 : ByteArray) (e1 : Int), s1.size ≤ 4611686018427387904 → i < l.length → aviarylaw08_BytesReads.j2 (k + 1) l i s1 e1 s1 e1 = some true := by
      intro s1 e1 hs1 hi
      simp only [aviarylaw08_BytesReads.j2]
      rw [End_eq, rEnd_eq]
      simp only [Option.bind_some, if_true]
      rw [wrap64_id (x := i + 1) (by omega) (by omega)]
      exact ih k (i + 1) s1 e1 (by omega) (by omega) hs1 (by omega)
    simp only [aviarylaw08_BytesReads.l0]
    by_cases c : i < l.length
    · rw [if_pos c]
      simp only [aviarylaw08_BytesReads.j1]
      by_cases c2 : i < 50
      · rw [if_pos (decide_eq_true c2), if_pos h0, if_pos c]
        by_cases c3 : rd l i < 0
        · rw [if_pos c3, Two_eq (by omega), rTwo_eq hs]
          simp only [Option.bind_some, if_true]
          exact step _ _ (Nat.le_trans (twoR_size s e) hs) c
        · rw [if_neg c3, Weights_eq (by omega), rWeights_eq hs (by omega) (by omega)]
          simp only [Option.bind_some]
          have := weightsR_len s e (rd l i)
          rw [bSame_eq (by omega) (by omega)]
          simp only [Option.bind_some, decide_true, if_true]
          exact step _ _ (Nat.le_trans (weightsR_size s e _) hs) c
      · rw [if_neg (by simpa using c2), End_eq, rEnd_eq]
        simp
    · rw [if_neg c]
      simp only [aviarylaw08_BytesReads.j1]
      rw [if_neg (by simp), End_eq, rEnd_eq]
      simp
theorem BytesReads : aviarylaw08_BytesReads.Pure := by
  intro s l hs hl0 hl hw
  refine ⟨65600 + 3 * 50 + 1, ?_⟩
  unfold aviarylaw08_BytesReads.f bytes_NewReader.f
  simp only [Option.bind_some]
  exact reads_l0 (by omega) 50 _ 0 s 0 (by omega) (by omega) (by omega) (by omega)

end Go.Proofs.Ytlebklkckphhdaa.Pure
