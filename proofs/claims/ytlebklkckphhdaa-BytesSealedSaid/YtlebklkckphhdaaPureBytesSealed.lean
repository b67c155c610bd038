/- What is sealed is opened; with one byte changed to another one, but for 0 and 255, it is not. No condition. -/
import Derived.Test.YtlebklkckphhdaaPBytesSealedx3
import Derived.Test.YtlebklkckphhdaaMSat
import Derived.Test.YtlebklkckphhdaaMVec
import Derived.Test.YtlebklkckphhdaaMBytes
set_option linter.unusedVariables false
set_option linter.unusedSimpArgs false
namespace Go.Proofs.Ytlebklkckphhdaa.Pure
open Go Go.RowKit Go.Proofs.Ytlebklkckphhdaa.PBytesSealed Go.Proofs.YtlebklkckphhdaaW.PrintWords Go.Proofs.YtlebklkckphhdaaW.PrintLast Go.Proofs.Ytlebklkckphhdaa.Mth
theorem bSame_l0 {a b : List Int} (hl : a.length = b.length) (hb : a.length ≤ 4611686018427387904) (d : Nat) : ∀ (k : Nat) (i : Int), 0 ≤ i → (a.length : Int) - i = d → d < k →
    aviaryref08_Same.l0 k a b i = some (decide (a.drop i.toNat = b.drop i.toNat)) := by
  induction d with
  | zero =>
    intro k i h0 hd hk
    obtain ⟨k, rfl⟩ : ∃ m, k = m + 1 := ⟨k - 1, by omega⟩
    simp only [aviaryref08_Same.l0]
    rw [if_neg (by omega), drop_len (by omega), drop_len (by omega)]
    simp
  | succ d ih =>
    intro k i h0 hd hk
    obtain ⟨k, rfl⟩ : ∃ m, k = m + 1 := ⟨k - 1, by omega⟩
    simp only [aviaryref08_Same.l0]
    rw [if_pos (by omega), if_pos h0, if_pos (by omega), drop_rd (l := a) h0 (by omega), drop_rd (l := b) h0 (by omega)]
    by_cases c : rd a i = rd b i
    · rw [if_pos c, wrap64_id (x := i + 1) (by omega) (by omega), ih k (i + 1) (by omega) (by omega) (by omega), c]
      simp
    · rw [if_neg c]
      simp [c]
theorem bSame_eq {k : Nat} {a b : List Int} (hb : a.length ≤ 4611686018427387904) (hk : a.length < k) : aviaryref08_Same.f k a b = some (decide (a = b)) := by
  unfold aviaryref08_Same.f
  by_cases c : a.length = b.length
  · rw [if_pos (by omega), bSame_l0 c hb a.length k 0 (by omega) (by omega) hk]
    rfl
  · rw [if_neg (by omega)]
    have : a ≠ b := fun h => c (by rw [h])
    simp [this]
theorem take_bad {k : Nat} {s : ByteArray} {e n : Int} (he : e ≠ 0) (hk : 0 < k) : bytes_rest_take.f k s e n = some ((⟨#[]⟩ : ByteArray), false, s, e) := by
  obtain ⟨k, rfl⟩ : ∃ m, k = m + 1 := ⟨k - 1, by omega⟩
  unfold bytes_rest_take.f
  simp [bytes_rest_take.j0, he]
theorem take_short {k : Nat} {s : ByteArray} {n : Int} (hn : n > s.size) (hk : 0 < k) : bytes_rest_take.f k s 0 n = some ((⟨#[]⟩ : ByteArray), false, s, 22) := by
  obtain ⟨k, rfl⟩ : ∃ m, k = m + 1 := ⟨k - 1, by omega⟩
  unfold bytes_rest_take.f
  rw [if_pos rfl, decide_eq_true hn]
  simp [bytes_rest_take.j0]
theorem take_ok {k : Nat} {s : ByteArray} {n : Int} (h0 : 0 ≤ n) (hn : n ≤ s.size) (hk : 0 < k) : bytes_rest_take.f k s 0 n = some (s.extract 0 n.toNat, true, s.extract n.toNat s.size, 0) := by
  obtain ⟨k, rfl⟩ : ∃ m, k = m + 1 := ⟨k - 1, by omega⟩
  unfold bytes_rest_take.f
  rw [if_pos rfl, decide_eq_false (by omega)]
  simp only [bytes_rest_take.j0]
  rw [if_neg (by simp), if_pos trivial, if_pos h0, if_pos hn]
theorem Two_eq {k : Nat} {s : ByteArray} {e : Int} (hk : 0 < k) : bytes_Reader_Two.f k s e = some (twoR s e) := by
  unfold bytes_Reader_Two.f twoR
  by_cases c : e = 0
  · subst c
    by_cases c2 : s.size < 2
    · rw [take_short (by omega) hk, if_pos rfl, if_pos c2]
      rfl
    · have z : (s.extract 0 (2 : Int).toNat).size = 2 := by
        rw [ByteArray.size_extract]; show min 2 s.size - 0 = 2; omega
      rw [take_ok (by omega) (by omega) hk, if_pos rfl, if_neg c2]
      simp only [Option.bind_some]
      rw [if_pos trivial, z, if_pos (by omega), if_pos (by omega)]
      have b0 : bt (s.extract 0 (2 : Int).toNat) 0 = bt s 0 := bt_extract (by decide) (by decide) (by show 2 ≤ s.size; omega)
      have b1 : bt (s.extract 0 (2 : Int).toNat) 1 = bt s 1 := bt_extract (by decide) (by decide) (by show 2 ≤ s.size; omega)
      have r0 := bt_range s 0
      have r1 := bt_range s 1
      rw [b0, b1, wrap64_id (by omega) (by omega), wrap64_id (x := bt s 1) (by omega) (by omega), wrap64_id (x := bt s 1 * 256) (by omega) (by omega), or_bytes r0.1 r0.2 r1.1 r1.2]
      rfl
  · rw [take_bad c hk, if_neg c]
    rfl
theorem bW_l0 {s : ByteArray} {n : Nat} (t : ByteArray) (e : Int) (hn : n ≤ s.size) (hb : n ≤ 4611686018427387904) (d : Nat) : ∀ (k : Nat) (i : Int), 0 ≤ i → (n : Int) - i = d → d < k →
    bytes_Reader_Weights.l0 k (s.extract 0 n) (fillI (i8s s n) i) n i t e = some (i8s s n, t, e) := by
  have hL := i8s_len s n
  have z : (s.extract 0 n).size = n := by rw [ByteArray.size_extract]; omega
  induction d with
  | zero =>
    intro k i h0 hd hk
    obtain ⟨k, rfl⟩ : ∃ m, k = m + 1 := ⟨k - 1, by omega⟩
    simp only [bytes_Reader_Weights.l0]
    rw [if_neg (by omega), fillI_end (by omega)]
  | succ d ih =>
    intro k i h0 hd hk
    obtain ⟨k, rfl⟩ : ∃ m, k = m + 1 := ⟨k - 1, by omega⟩
    have b : bt (s.extract 0 n) i = bt s i := by
      have h := bt_extract (s := s) (a := 0) (b := n) (i := i) h0 (by omega) hn
      rw [h]; simp
    simp only [bytes_Reader_Weights.l0]
    rw [if_pos (by omega), if_pos h0, z, if_pos (by omega), if_pos (by rw [fillI_len (by omega)]; omega), b, ← i8s_rd s (n := n) h0 (by omega), fillI_set h0 (by omega), wrap64_id (x := i + 1) (by omega) (by omega)]
    exact ih k (i + 1) (by omega) (by omega) (by omega)
theorem Weights_eq {k : Nat} {s : ByteArray} {e n : Int} (hk : 65540 < k) : bytes_Reader_Weights.f k s e n = some (weightsR s e n) := by
  obtain ⟨k, rfl⟩ : ∃ m, k = m + 1 := ⟨k - 1, by omega⟩
  have hr := twoR_range s e
  unfold bytes_Reader_Weights.f
  rw [Two_eq (by omega)]
  simp only [Option.bind_some]
  unfold weightsR
  generalize twoR s e = t at hr
  obtain ⟨c, s1, e1⟩ := t
  simp only at hr ⊢
  have bad : ∀ x : Int, x ≠ 0 → bytes_Reader_Weights.j1 k c s1 x = some ([], s1, x) := by
    intro x hx
    obtain ⟨k, rfl⟩ : ∃ m, k = m + 1 := ⟨k - 1, by omega⟩
    simp only [bytes_Reader_Weights.j1]
    rw [take_bad hx (by omega)]
    rfl
  by_cases ce : e1 = 0
  · subst ce
    by_cases cn : c = n
    · subst cn
      obtain ⟨m, rfl⟩ := Int.eq_ofNat_of_zero_le hr.1
      rw [if_pos rfl, if_pos rfl, if_pos rfl]
      simp only [bytes_Reader_Weights.j0, bne_self_eq_false, Bool.false_eq_true, if_false]
      obtain ⟨k, rfl⟩ : ∃ m, k = m + 1 := ⟨k - 1, by omega⟩
      simp only [bytes_Reader_Weights.j1]
      by_cases cs : (s1.size : Int) < m
      · rw [take_short (by omega) (by omega), if_pos cs]
        rfl
      · rw [take_ok (by omega) (by omega) (by omega), if_neg cs]
        simp only [Option.bind_some, if_true]
        have e : List.replicate ((m : Int)).toNat (0 : Int) = fillI (i8s s1 m) 0 := by rw [fillI_zero, i8s_len]; rfl
        rw [if_pos (by omega), if_pos (by omega), e, fillI_len (by rw [i8s_len]; omega), i8s_len]
        exact bW_l0 _ _ (by omega) (by omega) m k 0 (by omega) (by omega) (by omega)
    · have hb : (c != n) = true := by simpa using cn
      rw [if_pos rfl, if_pos rfl, if_neg cn, hb]
      simp only [bytes_Reader_Weights.j0, if_true]
      exact bad 21 (by decide)
  · rw [if_neg ce, if_neg ce]
    simp only [bytes_Reader_Weights.j0, Bool.false_eq_true, if_false]
    exact bad e1 ce
theorem End_eq {s : ByteArray} {e : Int} : bytes_Reader_End.f s e = some (endR s e, s, e) := by
  unfold bytes_Reader_End.f endR
  by_cases c : e = 0
  · subst c
    by_cases c2 : s.size = 0
    · rw [if_pos rfl, if_pos ((nil_size s).2 c2), if_pos rfl, if_pos c2]
    · rw [if_pos rfl, if_neg (fun h => c2 ((nil_size s).1 h)), if_pos rfl, if_neg c2]
  · rw [if_neg c, if_neg c]
theorem Sum_l0 {L : List Int} (hr : ∀ x ∈ L, 0 ≤ x ∧ x ≤ 255) (hb : L.length ≤ 4611686018427387904) (d : Nat) : ∀ (k : Nat) (a b i : Int), 0 ≤ i → (L.length : Int) - i = d → d < k → 0 ≤ a → a ≤ 254 → 0 ≤ b → b ≤ 254 →
    bytes_Sum.l0 k L a b i = some (sumL (L.drop i.toNat) a b) := by
  induction d with
  | zero =>
    intro k a b i h0 hd hk ha0 ha1 hb0 hb1
    obtain ⟨k, rfl⟩ : ∃ m, k = m + 1 := ⟨k - 1, by omega⟩
    simp only [bytes_Sum.l0]
    rw [if_neg (by omega), drop_len (by omega), wrap64_id (x := 256 * b) (by omega) (by omega), wrap64_id (by omega) (by omega)]
    rfl
  | succ d ih =>
    intro k a b i h0 hd hk ha0 ha1 hb0 hb1
    obtain ⟨k, rfl⟩ : ∃ m, k = m + 1 := ⟨k - 1, by omega⟩
    have hc := hr _ (rd_mem (l := L) h0 (by omega))
    simp only [bytes_Sum.l0]
    rw [if_pos (by omega), if_pos h0, wrap64_id (x := rd L i) (by omega) (by omega), wrap64_id (x := a + rd L i) (by omega) (by omega), Int.tmod_eq_emod_of_nonneg (a := a + rd L i) (by omega), wrap64_id (x := b + (a + rd L i) % 255) (by omega) (by omega), Int.tmod_eq_emod_of_nonneg (by omega), wrap64_id (x := i + 1) (by omega) (by omega), drop_rd (l := L) h0 (by omega)]
    exact ih k _ _ (i + 1) (by omega) (by omega) (by omega) (by omega) (by omega) (by omega) (by omega)
theorem Sum_eq {k : Nat} {s : ByteArray} (hb : s.size ≤ 4611686018427387904) (hk : s.size < k) : bytes_Sum.f k s = some (sumR s) := by
  unfold bytes_Sum.f
  rw [if_pos hb]
  exact Sum_l0 bytesOf_range (by rw [bytesOf_length]; exact hb) s.size k 0 0 0 (by omega) (by rw [bytesOf_length]; omega) hk (by omega) (by omega) (by omega) (by omega)
theorem bTwo_eq (n : Int) : bytes_Two.f n = some (twoS n) := rfl
theorem Open_eq {k : Nat} {s : ByteArray} (hb : s.size ≤ 4611686018427387904) (hk : s.size < k) : bytes_Open.f k s = some (openR s) := by
  unfold bytes_Open.f openR
  rw [wrap64_id (x := (s.size : Int) - 2) (by omega) (by omega)]
  by_cases c : s.size < 2
  · rw [if_pos (by omega), if_pos c]
  · have e : ((s.size : Int) - 2).toNat = s.size - 2 := by omega
    have z : (s.extract 0 (s.size - 2)).size ≤ s.size := by rw [ByteArray.size_extract]; omega
    rw [if_neg (by omega), if_pos (by omega), if_pos (by omega), if_neg c, e, Sum_eq (by omega) (by omega)]
    simp only [Option.bind_some, bTwo_eq]
    by_cases c2 : s.extract (s.size - 2) s.size = twoS (sumR (s.extract 0 (s.size - 2)))
    · rw [if_pos (same_bytes.2 c2), if_pos c2]
    · rw [if_neg (fun h => c2 (same_bytes.1 h)), if_neg c2]
theorem Seal_eq {k : Nat} {s : ByteArray} (hb : s.size ≤ 4611686018427387904) (hk : s.size < k) : bytes_Seal.f k s = some (sealR s) := by
  unfold bytes_Seal.f
  rw [Sum_eq hb hk]
  simp only [Option.bind_some, bTwo_eq]
  rw [twoS_size, if_pos (by omega)]
  rfl
theorem works_eq {k : Nat} (hk : 65540 < k) : aviarylaw08_works.f k = some true := by
  unfold aviarylaw08_works.f bytes_NewReader.f
  simp only [Option.bind_some]
  rw [Two_eq (by omega)]
  have e1 : twoR ⟨#[2, 1, 2, 0, 1, 255]⟩ 0 = (258, ⟨#[2, 0, 1, 255]⟩, 0) := by decide +kernel
  rw [e1]
  simp only [Option.bind_some]
  rw [Weights_eq hk]
  have e2 : weightsR ⟨#[2, 0, 1, 255]⟩ 0 2 = ([1, -1], ⟨#[]⟩, 0) := by decide +kernel
  rw [e2]
  simp only [Option.bind_some]
  rw [Open_eq (by decide) (by show 1 < k; omega)]
  have e3 : openR ⟨#[120]⟩ = (⟨#[]⟩, 22) := by decide +kernel
  rw [e3]
  simp only [Option.bind_some]
  rw [bTwo_eq]
  have e4 : (twoS 258).toList = [2, 1] := by decide +kernel
  simp only [Option.bind_some]
  rw [if_pos e4, Sum_eq (by decide) (by show 2 < k; omega)]
  have e5 : sumR ⟨#[97, 98]⟩ = 9667 := by decide +kernel
  rw [e5]
  simp only [Option.bind_some, if_true]
  rw [bSame_eq (by decide) (by show 2 < k; omega)]
  simp only [Option.bind_some]
  rw [if_pos (by decide), End_eq]
  have e6 : endR ⟨#[]⟩ 0 = 0 := by decide +kernel
  rw [e6]
  simp only [Option.bind_some, if_true]
  rw [Two_eq (by omega)]
  have e7 : twoR ⟨#[]⟩ 0 = (0, ⟨#[]⟩, 22) := by decide +kernel
  rw [e7]
  simp only [Option.bind_some, if_true]
  rw [End_eq]
  have e8 : endR ⟨#[]⟩ 22 = 22 := by decide +kernel
  rw [e8]
  simp only [Option.bind_some, if_true]
  rfl

theorem BytesSealed : aviarylaw08_BytesSealed.Pure := by
  intro s at_ by_ hs ha hb
  have hb := wfu8 hb
  have ha := wf64 ha
  refine ⟨70000, ?_⟩
  unfold aviarylaw08_BytesSealed.f
  rw [works_eq (by omega)]
  simp only [Option.bind_some, if_true]
  by_cases c : (s.size : Int) > 5000
  · rw [if_pos c]
  · have z := sealR_size s
    rw [if_neg c, Seal_eq (by omega) (by omega)]
    simp only [Option.bind_some]
    rw [Open_eq (by omega) (by omega), open_seal]
    simp only [Option.bind_some, if_true]
    have e0 : (((sealR s).size : Int) != wrap64 ((s.size : Int) + 2)) = false := by rw [wrap64_id (by omega) (by omega), z]; simp
    rw [e0]
    have hL : (bytesOf (sealR s)).length = s.size + 2 := by rw [bytesOf_length, z]
    simp only [aviarylaw08_BytesSealed.j0]
    rw [if_neg (by simp), if_pos (by omega)]
    simp only [Option.bind_some]
    rw [wrapu64, wrapu64, hL]
    have e1 : ((s.size + 2 : Nat) : Int) % 18446744073709551616 = ((s.size + 2 : Nat) : Int) := by omega
    rw [e1, Int.tmod_eq_emod_of_nonneg (by omega)]
    have hj0 : 0 ≤ at_ % 18446744073709551616 % ((s.size + 2 : Nat) : Int) := Int.emod_nonneg _ (by omega)
    have hj1 : at_ % 18446744073709551616 % ((s.size + 2 : Nat) : Int) < ((s.size + 2 : Nat) : Int) := Int.emod_lt_of_pos _ (by omega)
    generalize at_ % 18446744073709551616 % ((s.size + 2 : Nat) : Int) = j at hj0 hj1
    rw [wrap64_id (by omega) (by omega), if_neg (by omega), if_pos hj0, if_pos hj1]
    by_cases c1 : rd (bytesOf (sealR s)) j = by_
    · rw [if_pos c1]
    · rw [if_neg c1]
      have hmem := rd_mem (l := bytesOf (sealR s)) hj0 (by omega)
      have hr := bytesOf_range _ hmem
      have fin : (j < s.size → rd (bytesOf (sealR s)) j % 255 ≠ by_ % 255) → ((bytes_Open.f 69999 (strOfNums ((bytesOf (sealR s)).set j.toNat by_))).bind fun bt163 => (some (bt163.2 == 24))) = some true := by
        intro hm
        have hz : (strOfNums ((bytesOf (sealR s)).set j.toNat by_)).size ≤ 6000 := by
          have : (strOfNums ((bytesOf (sealR s)).set j.toNat by_)).data.toList.length = s.size + 2 := by rw [data_strOfNums, List.length_map, List.length_set, hL]
          rw [data_length] at this
          omega
        have hse := seal_seen (s := s) (j := j.toNat) (x := by_) (by omega) hb.1 hb.2 c1 (fun h => hm (by omega))
        rw [Open_eq (by omega) (by omega)]
        simp only [Option.bind_some]
        rw [hse]
        rfl
      by_cases c2 : j < s.size
      · rw [if_pos c2, Int.tmod_eq_emod_of_nonneg (by omega), Int.tmod_eq_emod_of_nonneg (by omega)]
        by_cases c3 : rd (bytesOf (sealR s)) j % 255 = by_ % 255
        · rw [if_pos c3]
        · rw [if_neg c3]
          exact fin (fun _ => c3)
      · rw [if_neg c2]
        exact fin (fun h => absurd h c2)

end Go.Proofs.Ytlebklkckphhdaa.Pure
