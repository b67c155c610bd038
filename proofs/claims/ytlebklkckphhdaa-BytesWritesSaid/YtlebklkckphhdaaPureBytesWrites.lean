/- Any number in two bytes, any weights' bytes, any text's check sum and seal, and what Open tells of it, are the same by the program as by the reference. No condition. -/
import Derived.Test.YtlebklkckphhdaaPBytesWritesx2
import Derived.Test.YtlebklkckphhdaaMSat
import Derived.Test.YtlebklkckphhdaaMVec
import Derived.Test.YtlebklkckphhdaaMBytes
set_option linter.unusedVariables false
set_option linter.unusedSimpArgs false
namespace Go.Proofs.Ytlebklkckphhdaa.Pure
open Go Go.RowKit Go.Proofs.Ytlebklkckphhdaa.PBytesWrites Go.Proofs.YtlebklkckphhdaaW.PrintWords Go.Proofs.YtlebklkckphhdaaW.PrintLast Go.Proofs.Ytlebklkckphhdaa.Mth
theorem Sum_l0 {L : List Int} (hr : ∀ x ∈ L, 0 ≤ x ∧ x ≤ 255) (hb : L.length ≤ 4611686018427387904) (d : Nat) : ∀ (k : Nat) (a b i : Int), 0 ≤ i → (L.length : Int) - i = d → d < k → 0 ≤ a → a ≤ 254 → 0 ≤ b → b ≤ 254 →
    bytes_Sum.l0 k L a b i = some (sumL (L.drop i.toNat) a b) := by
  induction d with
  | zero =>
    intro k a b i h0 hd hk ha0 ha1 hb0 hb1
    obtain ⟨k, rfl⟩ : ∃ m, k = m + 1 := ⟨k - 1, by omega⟩
    simp only [bytes_Sum.l0]
    rw [if_neg (by omega), drop_len (by omega), wrap64_id (x := 256 * b) (by omega) (by omega), wrap64_id (by omega) (by omega)]
    rfl
  | succ d ih =>
    intro k a b i h0 hd hk ha0 ha1 hb0 hb1
    obtain ⟨k, rfl⟩ : ∃ m, k = m + 1 := ⟨k - 1, by omega⟩
    have hc := hr _ (rd_mem (l := L) h0 (by omega))
    simp only [bytes_Sum.l0]
    rw [if_pos (by omega), if_pos h0, wrap64_id (x := rd L i) (by omega) (by omega), wrap64_id (x := a + rd L i) (by omega) (by omega), Int.tmod_eq_emod_of_nonneg (a := a + rd L i) (by omega), wrap64_id (x := b + (a + rd L i) % 255) (by omega) (by omega), Int.tmod_eq_emod_of_nonneg (by omega), wrap64_id (x := i + 1) (by omega) (by omega), drop_rd (l := L) h0 (by omega)]
    exact ih k _ _ (i + 1) (by omega) (by omega) (by omega) (by omega) (by omega) (by omega) (by omega)
theorem Sum_eq {k : Nat} {s : ByteArray} (hb : s.size ≤ 4611686018427387904) (hk : s.size < k) : bytes_Sum.f k s = some (sumR s) := by
  unfold bytes_Sum.f
  rw [if_pos hb]
  exact Sum_l0 bytesOf_range (by rw [bytesOf_length]; exact hb) s.size k 0 0 0 (by omega) (by rw [bytesOf_length]; omega) hk (by omega) (by omega) (by omega) (by omega)
theorem bTwo_eq (n : Int) : bytes_Two.f n = some (twoS n) := rfl
theorem Open_eq {k : Nat} {s : ByteArray} (hb : s.size ≤ 4611686018427387904) (hk : s.size < k) : bytes_Open.f k s = some (openR s) := by
  unfold bytes_Open.f openR
  rw [wrap64_id (x := (s.size : Int) - 2) (by omega) (by omega)]
  by_cases c : s.size < 2
  · rw [if_pos (by omega), if_pos c]
  · have e : ((s.size : Int) - 2).toNat = s.size - 2 := by omega
    have z : (s.extract 0 (s.size - 2)).size ≤ s.size := by rw [ByteArray.size_extract]; omega
    rw [if_neg (by omega), if_pos (by omega), if_pos (by omega), if_neg c, e, Sum_eq (by omega) (by omega)]
    simp only [Option.bind_some, bTwo_eq]
    by_cases c2 : s.extract (s.size - 2) s.size = twoS (sumR (s.extract 0 (s.size - 2)))
    · rw [if_pos (same_bytes.2 c2), if_pos c2]
    · rw [if_neg (fun h => c2 (same_bytes.1 h)), if_neg c2]
theorem Seal_eq {k : Nat} {s : ByteArray} (hb : s.size ≤ 4611686018427387904) (hk : s.size < k) : bytes_Seal.f k s = some (sealR s) := by
  unfold bytes_Seal.f
  rw [Sum_eq hb hk]
  simp only [Option.bind_some, bTwo_eq]
  rw [twoS_size, if_pos (by omega)]
  rfl
theorem rTwo8_eq {a : Int} (h0 : -9223372036854775808 ≤ a) (h1 : a ≤ 9223372036854775807) : aviaryref08_Two.f a = some (twoS a) := by
  unfold aviaryref08_Two.f twoS
  have hs := tdiv_split a 65536 (by decide)
  have b0 := Int.lt_tmod_of_pos a (b := 65536) (by decide)
  have b1 := Int.tmod_lt_of_pos a (b := 65536) (by decide)
  generalize Int.tmod a 65536 = t at hs b0 b1
  generalize Int.tdiv a 65536 = q at hs
  have e1 : wrap64 (t + 65536) = t + 65536 := wrap64_id (by omega) (by omega)
  have e2 : Int.tmod (t + 65536) 65536 = a % 65536 := by rw [Int.tmod_eq_emod_of_nonneg (by omega)]; omega
  rw [e1, e2, Int.tmod_eq_emod_of_nonneg (by omega), Int.tdiv_eq_ediv_of_nonneg (by omega), wrap64_id (by omega) (by omega)]
  have e3 : a % 65536 % 256 % 256 = a % 256 := by omega
  have e4 : a % 65536 / 256 % 256 = a / 256 % 256 := by omega
  rw [e3, e4]
theorem rSum_l0 {s : ByteArray} (hb : s.size ≤ 4611686018427387904) (d : Nat) : ∀ (k : Nat) (a b i : Int), 0 ≤ i → (s.size : Int) - i = d → d < k → 0 ≤ a → a ≤ 254 → 0 ≤ b → b ≤ 254 →
    aviaryref08_Sum.l0 k s a b i = some (sumL ((bytesOf s).drop i.toNat) a b) := by
  have hL := bytesOf_length s
  induction d with
  | zero =>
    intro k a b i h0 hd hk ha0 ha1 hb0 hb1
    obtain ⟨k, rfl⟩ : ∃ m, k = m + 1 := ⟨k - 1, by omega⟩
    simp only [aviaryref08_Sum.l0]
    rw [if_neg (by omega), drop_len (by omega), wrap64_id (x := 256 * b) (by omega) (by omega), wrap64_id (by omega) (by omega)]
    rfl
  | succ d ih =>
    intro k a b i h0 hd hk ha0 ha1 hb0 hb1
    obtain ⟨k, rfl⟩ : ∃ m, k = m + 1 := ⟨k - 1, by omega⟩
    have hc := bt_range s i
    simp only [aviaryref08_Sum.l0]
    rw [if_pos (by omega), if_pos h0, wrap64_id (x := bt s i) (by omega) (by omega), wrap64_id (x := a + bt s i) (by omega) (by omega), Int.tmod_eq_emod_of_nonneg (a := a + bt s i) (by omega), wrap64_id (x := b + (a + bt s i) % 255) (by omega) (by omega), Int.tmod_eq_emod_of_nonneg (by omega), wrap64_id (x := i + 1) (by omega) (by omega), drop_rd (l := bytesOf s) h0 (by omega), rd_bytesOf]
    exact ih k _ _ (i + 1) (by omega) (by omega) (by omega) (by omega) (by omega) (by omega) (by omega)
theorem rSum_eq {k : Nat} {s : ByteArray} (hb : s.size ≤ 4611686018427387904) (hk : s.size < k) : aviaryref08_Sum.f k s = some (sumR s) := by
  unfold aviaryref08_Sum.f
  exact rSum_l0 hb s.size k 0 0 0 (by omega) (by omega) hk (by omega) (by omega) (by omega) (by omega)
theorem sumL_range : ∀ (l : List Int) (a b : Int), 0 ≤ a → a ≤ 254 → 0 ≤ b → b ≤ 254 → 0 ≤ sumL l a b ∧ sumL l a b ≤ 65278
  | [], a, b, _, _, _, _ => by simp only [sumL]; omega
  | c :: l, a, b, _, _, _, _ => sumL_range l _ _ (by omega) (by omega) (by omega) (by omega)
theorem rSeal_eq {k : Nat} {s : ByteArray} (hb : s.size ≤ 4611686018427387904) (hk : s.size < k) : aviaryref08_Seal.f k s = some (sealR s) := by
  have h := sumL_range (bytesOf s) 0 0 (by omega) (by omega) (by omega) (by omega)
  unfold aviaryref08_Seal.f
  rw [rSum_eq hb hk]
  simp only [Option.bind_some]
  rw [rTwo8_eq (by unfold sumR; omega) (by unfold sumR; omega)]
  simp only [Option.bind_some]
  rw [twoS_size, if_pos (by omega)]
  rfl
theorem rOpen_eq {k : Nat} {s : ByteArray} (hb : s.size ≤ 4611686018427387904) (hk : s.size < k) : aviaryref08_Open.f k s = some (openR s) := by
  unfold aviaryref08_Open.f openR
  by_cases c : s.size < 2
  · rw [if_pos (by omega), if_pos c]
  · have e : ((s.size : Int) - 2).toNat = s.size - 2 := by omega
    have z : (s.extract 0 (s.size - 2)).size ≤ s.size := by rw [ByteArray.size_extract]; omega
    rw [if_neg (by omega), wrap64_id (x := (s.size : Int) - 2) (by omega) (by omega), if_pos (by omega), if_pos (by omega), if_neg c, e, rSeal_eq (by omega) (by omega)]
    simp only [Option.bind_some]
    have cut := cut_bytes (s := s) (n := s.size - 2) (by omega)
    by_cases c2 : s.extract (s.size - 2) s.size = twoS (sumR (s.extract 0 (s.size - 2)))
    · rw [if_pos (same_bytes.2 (by unfold sealR; rw [← c2]; exact cut)), if_pos c2]
    · rw [if_neg (fun h : (sealR (s.extract 0 (s.size - 2))).toList = s.toList => c2 (append_inj (cut.trans (same_bytes.1 h).symm))), if_neg c2]
theorem wW_l0 {L : List Int} (hb : L.length ≤ 65535) (d : Nat) : ∀ (k : Nat) (o : List Int) (i : Int), 0 ≤ i → (L.length : Int) - i = d → d < k → o.length ≤ 65540 + i →
    bytes_Weights.l0 k o L L.length i = some (strOfNums (o ++ (L.drop i.toNat).map fun x => x % 256)) := by
  induction d with
  | zero =>
    intro k o i h0 hd hk ho
    obtain ⟨k, rfl⟩ : ∃ m, k = m + 1 := ⟨k - 1, by omega⟩
    simp only [bytes_Weights.l0]
    rw [if_neg (by omega), drop_len (by omega)]
    simp
  | succ d ih =>
    intro k o i h0 hd hk ho
    obtain ⟨k, rfl⟩ : ∃ m, k = m + 1 := ⟨k - 1, by omega⟩
    simp only [bytes_Weights.l0]
    rw [if_pos (by omega), if_pos h0, if_pos (by omega), if_pos (by omega), wrap64_id (x := i + 1) (by omega) (by omega), ih k _ (i + 1) (by omega) (by omega) (by omega) (by simp; omega), drop_rd (l := L) h0 (by omega)]
    simp
theorem WeightsS_eq {k : Nat} {l : List Int} (hk : 65535 < k) : bytes_Weights.f k l = some (weightsS l) := by
  have hl : (l.take (min l.length 65535)).length = min l.length 65535 := by rw [List.length_take]; omega
  have hw := wW_l0 (L := l.take (min l.length 65535)) (by omega) (min l.length 65535) k (bytesOf (twoS ((min l.length 65535 : Nat) : Int))) 0 (by omega) (by omega) (by omega) (by rw [bytesOf_length, twoS_size]; omega)
  rw [hl] at hw
  unfold bytes_Weights.f
  rw [bTwo_eq]
  simp only [Option.bind_some]
  rw [twoS_size, if_pos (by omega), hw, strOfNums_append, strOfNums_bytesOf]
  rfl
theorem rwW_l0 {l : List Int} {n : Nat} (hn : n ≤ l.length) (hb : n ≤ 65535) (d : Nat) : ∀ (k : Nat) (i : Int), 0 ≤ i → (n : Int) - i = d → d < k →
    aviaryref08_Weights.l0 k l n (fillI ((l.take n).map fun x => x % 256) i) i = some (twoS n ++ strOfNums ((l.take n).map fun x => x % 256)) := by
  have hL : ((l.take n).map fun x => x % 256).length = n := by rw [List.length_map, List.length_take]; omega
  induction d with
  | zero =>
    intro k i h0 hd hk
    obtain ⟨k, rfl⟩ : ∃ m, k = m + 1 := ⟨k - 1, by omega⟩
    simp only [aviaryref08_Weights.l0]
    rw [if_neg (by omega), fillI_end (by omega), rTwo8_eq (by omega) (by omega)]
    simp only [Option.bind_some]
    have z : (strOfNums ((l.take n).map fun x => x % 256)).size = n := by
      rw [← bytesOf_length, bytesOf_strOfNums, hL]
      intro x hx
      obtain ⟨y, _, rfl⟩ := List.mem_map.1 hx
      omega
    rw [twoS_size, z, if_pos (by omega)]
  | succ d ih =>
    intro k i h0 hd hk
    obtain ⟨k, rfl⟩ : ∃ m, k = m + 1 := ⟨k - 1, by omega⟩
    have e : rd l i % 256 = rd ((l.take n).map fun x => x % 256) i := by
      rw [rd_map (f := fun x => x % 256) h0 (by rw [List.length_take]; omega)]
      unfold rd
      rw [List.getD_eq_getElem?_getD, List.getD_eq_getElem?_getD, List.getElem?_take, if_pos (by omega)]
    simp only [aviaryref08_Weights.l0]
    rw [if_pos (by omega), if_pos h0, if_pos (by omega), if_pos (by rw [fillI_len (by omega)]; omega), e, fillI_set h0 (by omega), wrap64_id (x := i + 1) (by omega) (by omega)]
    exact ih k (i + 1) (by omega) (by omega) (by omega)
theorem rWeightsS_eq {k : Nat} {l : List Int} (hk : 65535 < k) : aviaryref08_Weights.f k l = some (weightsS l) := by
  have hm : mn (l.length : Int) 65535 = ((min l.length 65535 : Nat) : Int) := by unfold mn; split <;> omega
  have hL : ((l.take (min l.length 65535)).map fun x => x % 256).length = min l.length 65535 := by rw [List.length_map, List.length_take]; omega
  have e : List.replicate (((min l.length 65535 : Nat) : Int)).toNat (0 : Int) = fillI ((l.take (min l.length 65535)).map fun x => x % 256) 0 := by rw [fillI_zero, hL]; rfl
  unfold aviaryref08_Weights.f
  rw [hm, if_pos (by omega), if_pos (by omega), e, rwW_l0 (by omega) (by omega) (min l.length 65535) k 0 (by omega) (by omega) (by omega)]
  rfl
theorem BytesWrites : aviarylaw08_BytesWrites.Pure := by
  intro n l s hn hl0 hl hw hs
  have hn := wf64 hn
  refine ⟨65600, ?_⟩
  unfold aviarylaw08_BytesWrites.f
  by_cases c : (s.size : Int) > 20000
  · rw [if_pos c]
  · rw [if_neg c, Open_eq (by omega) (by omega), rOpen_eq (by omega) (by omega), bTwo_eq, rTwo8_eq hn.1 hn.2, WeightsS_eq (by omega), rWeightsS_eq (by omega), Sum_eq (by omega) (by omega), rSum_eq (by omega) (by omega), Seal_eq (by omega) (by omega), rSeal_eq (by omega) (by omega)]
    simp

end Go.Proofs.Ytlebklkckphhdaa.Pure
