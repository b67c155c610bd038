import Derived.Test.YtdlinhegmplgiaaMVec
set_option linter.unusedVariables false
set_option linter.unusedSimpArgs false
namespace Go.Proofs.Ytdlinhegmplgiaa.Mth
open Go Go.RowKit Go.Proofs.YtdlinhegmplgiaaW.PrintWords Go.Proofs.YtdlinhegmplgiaaW.PrintLast
/-! bytes, and what is read of them -/
theorem or_bytes {a b : Int} (ha0 : 0 ≤ a) (ha1 : a ≤ 255) (hb0 : 0 ≤ b) (hb1 : b ≤ 255) : Go.bits .or .i64 a (b * 256) = a + b * 256 := by
  obtain ⟨n, rfl⟩ := Int.eq_ofNat_of_zero_le ha0
  obtain ⟨m, rfl⟩ := Int.eq_ofNat_of_zero_le hb0
  have hk : ∀ n : Int, 0 ≤ n → n < 2 ^ 16 → IntKind.i64.wrap n = n := fun n h0 h1 => by rw [IntKind.wrap_i64]; omega
  have e : (m : Int) * 256 = ((m * 256 : Nat) : Int) := by omega
  have h := (bits_nat .i64 16 (by decide) hk n (m * 256) (by omega) (by omega)).2
  have h2 : n ||| (m * 2 ^ 8) = m * 2 ^ 8 + n := by rw [Nat.or_comm, ← Nat.shiftLeft_eq, Nat.shiftLeft_add_eq_or_of_lt (by omega)]
  rw [e, h, show m * 256 = m * 2 ^ 8 from rfl, h2]
  omega
theorem bytesOf_extract (s : ByteArray) (i j : Nat) : bytesOf (s.extract i j) = ((bytesOf s).take j).drop i := by
  unfold bytesOf
  rw [ByteArray.data_extract, Array.toList_extract, List.extract_eq_take_drop, ← List.map_take, ← List.map_drop, List.drop_take]
theorem bytesOf_append (s t : ByteArray) : bytesOf (s ++ t) = bytesOf s ++ bytesOf t := by
  unfold bytesOf
  rw [ByteArray.data_append, Array.toList_append, List.map_append]
theorem bytesOf_inj {s t : ByteArray} (h : bytesOf s = bytesOf t) : s = t := by
  unfold bytesOf at h
  have h2 : s.data.toList = t.data.toList := by
    refine List.map_inj_right (f := fun b : UInt8 => (b.toNat : Int)) (fun a b hab => UInt8.toNat_inj.1 (Int.ofNat.inj hab)) |>.1 h
  cases s; cases t
  simp only at h2
  rw [Array.toList_inj.1 h2]
theorem bytesOf_range {s : ByteArray} : ∀ x ∈ bytesOf s, 0 ≤ x ∧ x ≤ 255 := by
  intro x hx
  obtain ⟨b, _, rfl⟩ := List.mem_map.1 hx
  have := b.toNat_lt
  omega
theorem bt_extract {s : ByteArray} {a b : Nat} {i : Int} (h0 : 0 ≤ i) (h1 : a + i.toNat < b) (h2 : b ≤ s.size) : bt (s.extract a b) i = bt s (a + i) := by
  rw [← rd_bytesOf, ← rd_bytesOf, bytesOf_extract]
  unfold rd
  rw [List.getD_eq_getElem?_getD, List.getD_eq_getElem?_getD, List.getElem?_drop, List.getElem?_take, if_pos h1, show (a : Int) + i = ((a + i.toNat : Nat) : Int) by omega]
  rfl
/-- what Two of a reader tells: the number, what is left, the error -/
def twoR (s : ByteArray) (e : Int) : Int × ByteArray × Int :=
  if e = 0 then (if s.size < 2 then (0, s, 22) else (bt s 0 + bt s 1 * 256, s.extract 2 s.size, 0)) else (0, s, e)
/-- so many bytes as weights -/
def i8s (s : ByteArray) (n : Nat) : List Int := (List.range n).map fun i => IntKind.i8.wrap (bt s (i : Nat))
theorem i8s_len (s : ByteArray) (n : Nat) : (i8s s n).length = n := by simp [i8s]
theorem i8s_rd (s : ByteArray) {n : Nat} {i : Int} (h0 : 0 ≤ i) (h1 : i < n) : rd (i8s s n) i = IntKind.i8.wrap (bt s i) := by
  obtain ⟨j, rfl⟩ := Int.eq_ofNat_of_zero_le h0
  unfold rd i8s
  rw [List.getD_eq_getElem?_getD, List.getElem?_map, List.getElem?_range (by omega)]
  rfl
theorem i8_range (x : Int) : -128 ≤ IntKind.i8.wrap x ∧ IntKind.i8.wrap x ≤ 127 := by
  simp [IntKind.wrap, IntKind.bits, IntKind.signed]
  split <;> omega
theorem i8s_all8 (s : ByteArray) (n : Nat) : All8 (i8s s n) := by
  intro x hx
  obtain ⟨i, _, rfl⟩ := List.mem_map.1 hx
  exact i8_range _
/-- what Weights of a reader tells -/
def weightsR (s : ByteArray) (e n : Int) : List Int × ByteArray × Int :=
  if (twoR s e).2.2 = 0 then
    (if (twoR s e).1 = n then (if ((twoR s e).2.1.size : Int) < n then ([], (twoR s e).2.1, 22) else (i8s (twoR s e).2.1 n.toNat, (twoR s e).2.1.extract n.toNat (twoR s e).2.1.size, 0)) else ([], (twoR s e).2.1, 21))
  else ([], (twoR s e).2.1, (twoR s e).2.2)
/-- what End of a reader tells -/
def endR (s : ByteArray) (e : Int) : Int := if e = 0 then (if s.size = 0 then 0 else 23) else e
theorem twoR_range (s : ByteArray) (e : Int) : 0 ≤ (twoR s e).1 ∧ (twoR s e).1 ≤ 65535 := by
  have h0 := bt_range s 0
  have h1 := bt_range s 1
  unfold twoR
  split
  · split
    · simp
    · simp only; omega
  · simp
theorem extract_size (s : ByteArray) (i : Nat) : (s.extract i s.size).size = s.size - i := by simp [ByteArray.size_extract]
theorem twoR_size (s : ByteArray) (e : Int) : (twoR s e).2.1.size ≤ s.size := by
  unfold twoR
  split
  · split
    · exact Nat.le_refl _
    · simp only [extract_size]; omega
  · exact Nat.le_refl _
theorem weightsR_size (s : ByteArray) (e n : Int) : (weightsR s e n).2.1.size ≤ s.size := by
  have h := twoR_size s e
  unfold weightsR
  split
  · split
    · split
      · exact h
      · simp only [extract_size]; omega
    · exact h
  · exact h
theorem weightsR_len (s : ByteArray) (e n : Int) : (weightsR s e n).1.length ≤ 65535 := by
  have h := twoR_range s e
  unfold weightsR
  split
  · split
    · split
      · simp
      · simp only [i8s_len]; omega
    · simp
  · simp
theorem nil_size (s : ByteArray) : s.toList = ([] : List UInt8) ↔ s.size = 0 := by
  have h : s.toList.length = s.size := by rw [ByteArray.toList_eq]; exact data_length s
  rw [← h]; exact List.length_eq_zero_iff.symm
/-- a check sum, from two parts on -/
def sumL : List Int → Int → Int → Int
  | [], a, b => 256 * b + a
  | c :: l, a, b => sumL l ((a + c) % 255) ((b + (a + c) % 255) % 255)
def sumR (s : ByteArray) : Int := sumL (bytesOf s) 0 0
/-- a number in two bytes -/
def twoS (n : Int) : ByteArray := strOfNums [n % 256, n / 256 % 256]
def openR (s : ByteArray) : ByteArray × Int :=
  if s.size < 2 then ((⟨#[]⟩ : ByteArray), 22) else (if s.extract (s.size - 2) s.size = twoS (sumR (s.extract 0 (s.size - 2))) then (s.extract 0 (s.size - 2), 0) else ((⟨#[]⟩ : ByteArray), 24))
theorem same_bytes {s t : ByteArray} : s.toList = t.toList ↔ s = t := by
  rw [ByteArray.toList_eq, ByteArray.toList_eq]
  constructor
  · intro h
    cases s; cases t
    simp only at h
    rw [Array.toList_inj.1 h]
  · intro h; rw [h]
theorem endR_of {s : ByteArray} {e : Int} (h : e ≠ 0) : endR s e = e := by simp [endR, h]
theorem endR_nought (s : ByteArray) : endR s 0 = 0 ∨ endR s 0 = 23 := by
  unfold endR
  by_cases c : s.size = 0 <;> simp [c]
theorem twoR_bad {s : ByteArray} {e : Int} (h : e ≠ 0) : twoR s e = (0, s, e) := by simp [twoR, h]
theorem weightsR_bad {s : ByteArray} {e n : Int} (h : e ≠ 0) : weightsR s e n = ([], s, e) := by simp [weightsR, twoR_bad h, h]
theorem weightsR_cases (s : ByteArray) (e n : Int) : (weightsR s e n).2.2 = 0 ∨ ((weightsR s e n).1 = [] ∧ (weightsR s e n).2.2 ≠ 0 ∧ ((weightsR s e n).2.2 = e ∨ (weightsR s e n).2.2 = 21 ∨ (weightsR s e n).2.2 = 22)) := by
  have ht : (twoR s e).2.2 = 0 ∨ (twoR s e).2.2 = e ∨ (twoR s e).2.2 = 22 := by
    unfold twoR
    by_cases c : e = 0
    · by_cases c2 : s.size < 2 <;> simp [c, c2]
    · simp [c]
  unfold weightsR
  by_cases c : (twoR s e).2.2 = 0
  · rw [if_pos c]
    by_cases c2 : (twoR s e).1 = n
    · rw [if_pos c2]
      by_cases c3 : ((twoR s e).2.1.size : Int) < n
      · rw [if_pos c3]; right; simp
      · rw [if_neg c3]; left; rfl
    · rw [if_neg c2]; right; simp
  · rw [if_neg c]
    right
    refine ⟨rfl, c, ?_⟩
    rcases ht with h | h | h
    · exact absurd h c
    · exact .inl h
    · exact .inr (.inr h)
theorem data_strOfNums (xs : List Int) : (strOfNums xs).data.toList = xs.map fun n => UInt8.ofNat n.toNat := rfl
theorem bytes_ext {s t : ByteArray} (h : s.data.toList = t.data.toList) : s = t := by
  cases s; cases t
  simp only at h
  rw [Array.toList_inj.1 h]
theorem strOfNums_append (xs ys : List Int) : strOfNums (xs ++ ys) = strOfNums xs ++ strOfNums ys := by
  refine bytes_ext ?_
  rw [ByteArray.data_append, Array.toList_append, data_strOfNums, data_strOfNums, data_strOfNums, List.map_append]
theorem strOfNums_bytesOf (s : ByteArray) : strOfNums (bytesOf s) = s := by
  refine bytes_ext ?_
  rw [data_strOfNums, bytesOf, List.map_map]
  conv => rhs; rw [← List.map_id s.data.toList]
  refine List.map_congr_left (fun b _ => ?_)
  simp
theorem bytesOf_strOfNums {xs : List Int} (h : ∀ x ∈ xs, 0 ≤ x ∧ x ≤ 255) : bytesOf (strOfNums xs) = xs := by
  rw [bytesOf, data_strOfNums, List.map_map]
  conv => rhs; rw [← List.map_id xs]
  refine List.map_congr_left (fun x hx => ?_)
  have := h x hx
  show ((UInt8.ofNat x.toNat).toNat : Int) = x
  rw [UInt8.toNat_ofNat']
  omega
theorem twoS_bytes (n : Int) : bytesOf (twoS n) = [n % 256, n / 256 % 256] := by
  unfold twoS
  refine bytesOf_strOfNums ?_
  intro x hx
  simp at hx
  omega
theorem twoS_size (n : Int) : (twoS n).size = 2 := by rw [← bytesOf_length, twoS_bytes]; rfl
/-- a text with its check sum behind it -/
def sealR (s : ByteArray) : ByteArray := s ++ twoS (sumR s)
theorem sealR_size (s : ByteArray) : (sealR s).size = s.size + 2 := by unfold sealR; rw [ByteArray.size_append, twoS_size]
theorem append_inj {s t u : ByteArray} (h : s ++ t = s ++ u) : t = u := by
  have h2 := congrArg bytesOf h
  rw [bytesOf_append, bytesOf_append] at h2
  exact bytesOf_inj (List.append_cancel_left h2)
theorem cut_bytes {s : ByteArray} {n : Nat} (h : n ≤ s.size) : s.extract 0 n ++ s.extract n s.size = s := by
  refine bytesOf_inj ?_
  rw [bytesOf_append, bytesOf_extract, bytesOf_extract, List.drop_zero, ← bytesOf_length, List.take_of_length_le (Nat.le_refl _), List.take_append_drop]
/-- weights' bytes, with their count -/
def weightsS (l : List Int) : ByteArray := twoS ((min l.length 65535 : Nat) : Int) ++ strOfNums ((l.take (min l.length 65535)).map fun x => x % 256)
theorem ext_app (a b : ByteArray) : (a ++ b).extract a.size (a ++ b).size = b := by
  refine bytesOf_inj ?_
  rw [bytesOf_extract, ← bytesOf_length (a ++ b), List.take_of_length_le (Nat.le_refl _), bytesOf_append, ← bytesOf_length a, List.drop_left]
theorem ext_app0 (a b : ByteArray) : (a ++ b).extract 0 a.size = a := by
  refine bytesOf_inj ?_
  rw [bytesOf_extract, List.drop_zero, bytesOf_append, ← bytesOf_length a, List.take_left]
theorem bt_left {a b : ByteArray} {i : Int} (h : i.toNat < a.size) : bt (a ++ b) i = bt a i := by
  rw [← rd_bytesOf, ← rd_bytesOf, bytesOf_append]
  unfold rd
  rw [List.getD_eq_getElem?_getD, List.getD_eq_getElem?_getD, List.getElem?_append_left (by rw [bytesOf_length]; exact h)]
theorem twoR_app (n : Int) (t : ByteArray) : twoR (twoS n ++ t) 0 = (n % 65536, t, 0) := by
  have z := twoS_size n
  have h0 : bt (twoS n ++ t) 0 = n % 256 := by rw [bt_left (by rw [z]; decide), ← rd_bytesOf, twoS_bytes]; rfl
  have h1 : bt (twoS n ++ t) 1 = n / 256 % 256 := by rw [bt_left (by rw [z]; decide), ← rd_bytesOf, twoS_bytes]; rfl
  have hx := ext_app (twoS n) t
  rw [z] at hx
  unfold twoR
  rw [if_pos rfl, if_neg (by rw [ByteArray.size_append, z]; omega), h0, h1, hx]
  have : n % 256 + n / 256 % 256 * 256 = n % 65536 := by omega
  rw [this]
theorem i8_back {x : Int} (h0 : -128 ≤ x) (h1 : x ≤ 127) : IntKind.i8.wrap (x % 256) = x := by
  simp [IntKind.wrap, IntKind.bits, IntKind.signed]
  omega
theorem i8s_back {w : List Int} (hw : All8 w) (t : ByteArray) : i8s (strOfNums (w.map fun x => x % 256) ++ t) w.length = w := by
  have hb : bytesOf (strOfNums (w.map fun x => x % 256)) = w.map fun x => x % 256 := bytesOf_strOfNums (by
    intro x hx
    obtain ⟨y, _, rfl⟩ := List.mem_map.1 hx
    omega)
  have z : (strOfNums (w.map fun x => x % 256)).size = w.length := by rw [← bytesOf_length, hb, List.length_map]
  refine List.ext_getElem (i8s_len _ _) (fun i h1 h2 => ?_)
  have hx := hw w[i] (List.getElem_mem h2)
  have e1 : (i8s (strOfNums (w.map fun x => x % 256) ++ t) w.length)[i] = rd (i8s (strOfNums (w.map fun x => x % 256) ++ t) w.length) (i : Int) := by
    unfold rd; rw [List.getD_eq_getElem?_getD, Int.toNat_natCast, List.getElem?_eq_getElem h1]; rfl
  rw [e1, i8s_rd _ (by omega) (by omega), bt_left (by rw [z]; omega), ← rd_bytesOf, hb]
  unfold rd
  rw [List.getD_eq_getElem?_getD, Int.toNat_natCast, List.getElem?_map, List.getElem?_eq_getElem h2]
  exact i8_back hx.1 hx.2
theorem weightsS_size (w : List Int) : (weightsS w).size = 2 + min w.length 65535 := by
  unfold weightsS
  rw [ByteArray.size_append, twoS_size, ← bytesOf_length, bytesOf_strOfNums]
  · simp
  · intro x hx
    obtain ⟨y, _, rfl⟩ := List.mem_map.1 hx
    omega
theorem weightsR_app {w : List Int} (hw : All8 w) (hl : w.length ≤ 65535) (t : ByteArray) : weightsR (weightsS w ++ t) 0 w.length = (w, t, 0) := by
  have hm : min w.length 65535 = w.length := by omega
  have hb : bytesOf (strOfNums (w.map fun x => x % 256)) = w.map fun x => x % 256 := bytesOf_strOfNums (by
    intro x hx
    obtain ⟨y, _, rfl⟩ := List.mem_map.1 hx
    omega)
  have z : (strOfNums (w.map fun x => x % 256)).size = w.length := by rw [← bytesOf_length, hb, List.length_map]
  have e : weightsS w ++ t = twoS (w.length : Int) ++ (strOfNums (w.map fun x => x % 256) ++ t) := by
    unfold weightsS
    rw [hm, List.take_of_length_le (Nat.le_refl _), ByteArray.append_assoc]
  have hx := ext_app (strOfNums (w.map fun x => x % 256)) t
  rw [z] at hx
  unfold weightsR
  rw [e, twoR_app]
  simp only
  rw [if_pos trivial, if_pos (by omega), if_neg (by rw [ByteArray.size_append, z]; omega), Int.toNat_natCast, i8s_back hw, hx]
/-- numbers, and weights behind each of them -/
def joinS (w : List Int) : List Int → ByteArray
  | [] => ⟨#[]⟩
  | n :: l => (twoS n ++ weightsS w) ++ joinS w l
theorem two_mod {a : Int} : Int.tmod (wrap64 (Int.tmod a 65536 + 65536)) 65536 = a % 65536 := by
  have hs := tdiv_split a 65536 (by decide)
  have b0 := Int.lt_tmod_of_pos a (b := 65536) (by decide)
  have b1 := Int.tmod_lt_of_pos a (b := 65536) (by decide)
  generalize Int.tmod a 65536 = t at hs b0 b1
  generalize Int.tdiv a 65536 = q at hs
  rw [wrap64_id (by omega) (by omega), Int.tmod_eq_emod_of_nonneg (by omega)]
  omega
theorem sumL_mod : ∀ (l : List Int) (a b : Int), 0 ≤ a → a ≤ 254 → sumL l a b % 256 = (a + l.sum) % 255
  | [], a, b, h0, h1 => by simp only [sumL, List.sum_nil]; omega
  | c :: l, a, b, h0, h1 => by
    simp only [sumL, List.sum_cons]
    rw [sumL_mod l _ _ (by omega) (by omega)]
    omega
theorem sumL_bound : ∀ (l : List Int) (a b : Int), 0 ≤ a → a ≤ 254 → 0 ≤ b → b ≤ 254 → 0 ≤ sumL l a b ∧ sumL l a b ≤ 65278
  | [], a, b, _, _, _, _ => by simp only [sumL]; omega
  | c :: l, a, b, _, _, _, _ => sumL_bound l _ _ (by omega) (by omega) (by omega) (by omega)
theorem open_seal (s : ByteArray) : openR (sealR s) = (s, 0) := by
  have z := sealR_size s
  have e1 := ext_app s (twoS (sumR s))
  have e0 := ext_app0 s (twoS (sumR s))
  change (sealR s).extract s.size (sealR s).size = _ at e1
  change (sealR s).extract 0 s.size = _ at e0
  have h : (sealR s).size - 2 = s.size := by omega
  unfold openR
  rw [if_neg (by omega), h, e1, e0, if_pos rfl]
theorem open_bad {u : ByteArray} {n : Nat} (hz : u.size = n + 2) (h : (bytesOf u).drop n ≠ [sumL ((bytesOf u).take n) 0 0 % 256, sumL ((bytesOf u).take n) 0 0 / 256 % 256]) : (openR u).2 = 24 := by
  have hn : u.size - 2 = n := by omega
  unfold openR
  rw [if_neg (by omega), hn]
  by_cases c : u.extract n u.size = twoS (sumR (u.extract 0 n))
  · refine absurd ?_ h
    have c2 := congrArg bytesOf c
    rw [twoS_bytes, bytesOf_extract, List.take_of_length_le (by rw [bytesOf_length]; exact Nat.le_refl _)] at c2
    unfold sumR at c2
    rw [bytesOf_extract, List.drop_zero] at c2
    exact c2
  · rw [if_neg c]
theorem sum_set : ∀ (l : List Int) (j : Nat) (x : Int), j < l.length → (l.set j x).sum = l.sum - l.getD j 0 + x
  | [], j, x, h => absurd h (by simp)
  | c :: l, 0, x, _ => by simp; omega
  | c :: l, j + 1, x, h => by
    have h2 := sum_set l j x (by simpa using h)
    simp only [List.set_cons_succ, List.sum_cons, h2, List.getD_cons_succ]
    omega
/-- one byte of a sealed text changed to another one is seen -/
theorem seal_seen {s : ByteArray} {j : Nat} {x : Int} (hj : j < s.size + 2) (hx0 : 0 ≤ x) (hx1 : x ≤ 255) (hne : (bytesOf (sealR s)).getD j 0 ≠ x) (hm : j < s.size → (bytesOf (sealR s)).getD j 0 % 255 ≠ x % 255) :
    (openR (strOfNums ((bytesOf (sealR s)).set j x))).2 = 24 := by
  have hr : ∀ y ∈ (bytesOf (sealR s)).set j x, 0 ≤ y ∧ y ≤ 255 := by
    intro y hy
    rcases List.mem_or_eq_of_mem_set hy with h | h
    · exact bytesOf_range y h
    · omega
  have hb : bytesOf (strOfNums ((bytesOf (sealR s)).set j x)) = (bytesOf (sealR s)).set j x := bytesOf_strOfNums hr
  have hS : bytesOf (sealR s) = bytesOf s ++ [sumR s % 256, sumR s / 256 % 256] := by unfold sealR; rw [bytesOf_append, twoS_bytes]
  have hl := bytesOf_length s
  have hbd := sumL_bound (bytesOf s) 0 0 (by omega) (by omega) (by omega) (by omega)
  refine open_bad (n := s.size) (by rw [← bytesOf_length, hb, List.length_set, bytesOf_length, sealR_size]) ?_
  rw [hb, hS]
  rw [hS] at hne hm
  by_cases c : j < s.size
  · rw [List.set_append_left _ _ (by omega), List.drop_left' (by rw [List.length_set]; exact hl), List.take_left' (by rw [List.length_set]; exact hl)]
    intro h
    injection h with h1 h2
    injection h2 with h2 _
    have hbd2 := sumL_bound ((bytesOf s).set j x) 0 0 (by omega) (by omega) (by omega) (by omega)
    have e1 := sumL_mod (bytesOf s) 0 0 (by omega) (by omega)
    have e2 := sumL_mod ((bytesOf s).set j x) 0 0 (by omega) (by omega)
    rw [sum_set _ _ _ (by omega)] at e2
    have hg : (bytesOf s ++ [sumR s % 256, sumR s / 256 % 256]).getD j 0 = (bytesOf s).getD j 0 := by
      rw [List.getD_eq_getElem?_getD, List.getD_eq_getElem?_getD, List.getElem?_append_left (by omega)]
    have hm := hm c
    rw [hg] at hm
    unfold sumR at h1 h2
    omega
  · have hk : j = s.size ∨ j = s.size + 1 := by omega
    rw [List.set_append_right _ _ (by omega), List.drop_left' hl, List.take_left' hl]
    have hg : (bytesOf s ++ [sumR s % 256, sumR s / 256 % 256]).getD j 0 = [sumR s % 256, sumR s / 256 % 256].getD (j - s.size) 0 := by
      rw [List.getD_eq_getElem?_getD, List.getD_eq_getElem?_getD, List.getElem?_append_right (by omega), hl]
    rw [hg] at hne
    intro h
    unfold sumR at h hne
    rcases hk with rfl | rfl
    · rw [hl, Nat.sub_self] at h
      rw [Nat.sub_self] at hne
      injection h with h1 h2
      exact hne h1.symm
    · rw [hl, Nat.add_sub_cancel_left] at h
      rw [Nat.add_sub_cancel_left] at hne
      injection h with h1 h2
      injection h2 with h2 _
      exact hne h2.symm
end Go.Proofs.Ytdlinhegmplgiaa.Mth
