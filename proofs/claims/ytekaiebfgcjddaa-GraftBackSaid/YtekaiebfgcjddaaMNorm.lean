import Derived.Test.YtekaiebfgcjddaaMVec
import Derived.Test.YtekaiebfgcjddaaMCurve
set_option linter.unusedVariables false
set_option linter.unusedSimpArgs false
namespace Go.Proofs.Ytekaiebfgcjddaa.Mth
open Go Go.RowKit Go.Proofs.YtekaiebfgcjddaaW.PrintWords Go.Proofs.YtekaiebfgcjddaaW.PrintLast
/-! sizes -/
def rootN (n s : Int) : Int := rsqrtI (clampI (rdivI (Int.tdiv s n) 16 + 1))
def rmsA (r : Int) (x w : List Int) : List Int := List.zipWith (fun a b => clampI (rdivI (mulI a r * b) 6)) x w
def rmsI (x w : List Int) : List Int := rmsA (rootN x.length (dotA 0 x x)) x w
theorem rmsA_len {r : Int} {x w : List Int} (h : x.length = w.length) : (rmsA r x w).length = x.length := by simp [rmsA, h]
theorem rms_prod {a r b : Int} (h0 : -128 ≤ b) (h1 : b ≤ 127) : -274877906944 ≤ mulI a r * b ∧ mulI a r * b ≤ 274877906944 := by
  have := mulI_range a r
  have := prod_range (x := mulI a r) (y := b) (A := 2147483648) (B := 128) (by omega) (by omega) (by omega) (by omega)
  omega
theorem rdiv16 {x : Int} (h0 : -9223372036854775808 ≤ x) (h1 : x ≤ 9223372036854775807) : -140737488355329 ≤ rdivI x 16 ∧ rdivI x 16 ≤ 140737488355329 := by
  have := rdivI_near x 15
  simp only [show (2 : Int) ^ 15 = 32768 by decide, show (2 : Int) ^ (15 + 1) = 65536 by decide, show 15 + 1 = 16 by decide] at this
  omega
theorem tdiv64 {a b : Int} (h0 : -9223372036854775808 ≤ a) (h1 : a ≤ 9223372036854775807) (hb : 0 < b) : -9223372036854775808 ≤ Int.tdiv a b ∧ Int.tdiv a b ≤ 9223372036854775807 := by
  by_cases c : 0 ≤ a
  · have e := Int.tdiv_eq_ediv_of_nonneg (b := b) c
    rw [e]
    have := Int.ediv_le_self b c
    have := Int.ediv_nonneg c (Int.le_of_lt hb)
    omega
  · have e : Int.tdiv a b = -(Int.tdiv (-a) b) := by rw [Int.neg_tdiv]; omega
    rw [e, Int.tdiv_eq_ediv_of_nonneg (by omega)]
    have := Int.ediv_le_self b (show 0 ≤ -a by omega)
    have := Int.ediv_nonneg (show 0 ≤ -a by omega) (Int.le_of_lt hb)
    omega
/-! shares -/
def maxI : Int → List Int → Int
  | m, a :: as => maxI (mx m a) as
  | m, [] => m
def maxC : Int → List Int → Int
  | m, a :: as => maxC (mx m (clampI a)) as
  | m, [] => m
theorem clampI_mx (a b : Int) : clampI (mx a b) = mx (clampI a) (clampI b) := by unfold mx clampI; (repeat' split) <;> omega
theorem maxC_eq : ∀ (m : Int) (l : List Int), clampI (maxI m l) = maxC (clampI m) l
  | m, [] => rfl
  | m, a :: as => by simp only [maxI, maxC]; rw [maxC_eq (mx m a) as, clampI_mx]
def topI (x : List Int) : Int := clampI (maxI (rd x 0) (x.drop 1))
theorem topI_range (x : List Int) : -2147483648 ≤ topI x ∧ topI x ≤ 2147483647 := clampI_range _
theorem topC {x : List Int} (h : x ≠ []) : maxC (-4611686018427387904) x = topI x := by
  cases x with
  | nil => exact absurd rfl h
  | cons a as =>
    have e : mx (-4611686018427387904) (clampI a) = clampI a := by have := clampI_range a; unfold mx; split <;> omega
    unfold topI
    rw [maxC_eq]
    simp only [maxC]
    rw [e]
    rfl
def expsI (t : Int) (x : List Int) : List Int := x.map fun v => expI (clampI v - t)
def softI (x : List Int) : List Int := (expsI (topI x) x).map fun e => divI e (expsI (topI x) x).sum
theorem expsI_len (t : Int) (x : List Int) : (expsI t x).length = x.length := by simp [expsI]
theorem softI_len (x : List Int) : (softI x).length = x.length := by simp [softI, expsI]
theorem sum_parts {l : List Int} (h : ∀ e ∈ l, 0 ≤ e ∧ e ≤ 65536) : 0 ≤ l.sum ∧ l.sum ≤ 65536 * (l.length : Int) := by
  induction l with
  | nil => simp
  | cons a as ih =>
    have h1 := ih fun e he => h e (List.mem_cons_of_mem _ he)
    have h2 := h a List.mem_cons_self
    rw [List.sum_cons, List.length_cons]
    omega
theorem expsI_parts (t : Int) (x : List Int) : ∀ e ∈ expsI t x, 0 ≤ e ∧ e ≤ 65536 := by
  intro e he
  unfold expsI at he
  obtain ⟨v, -, rfl⟩ := List.mem_map.1 he
  exact expI_range _
theorem expsI_sum (t : Int) (x : List Int) (i : Nat) : 0 ≤ ((expsI t x).take i).sum ∧ ((expsI t x).take i).sum ≤ 65536 * (x.length : Int) := by
  have := sum_parts (l := (expsI t x).take i) fun e he => expsI_parts t x e (List.mem_of_mem_take he)
  rw [List.length_take, expsI_len] at this
  omega
theorem take_sum {l : List Int} {i : Int} (h0 : 0 ≤ i) (h1 : i < l.length) : (l.take (i + 1).toNat).sum = (l.take i.toNat).sum + rd l i := by rw [← take_rd h0 h1]; simp
/-- a row that is written over from the front -/
def overI (R E : List Int) (i : Int) : List Int := R.take i.toNat ++ E.drop i.toNat
theorem overI_zero (R E : List Int) : overI R E 0 = E := by simp [overI]
theorem overI_len {R E : List Int} {i : Int} (hl : R.length = E.length) : (overI R E i).length = R.length := by simp [overI]; omega
theorem overI_end {R E : List Int} {i : Int} (hl : R.length = E.length) (h : (R.length : Int) ≤ i) : overI R E i = R := by
  unfold overI
  rw [take_len h, drop_len (by omega)]
  simp
theorem overI_rd {R E : List Int} {i : Int} (hl : R.length = E.length) (h0 : 0 ≤ i) (h1 : i < R.length) : rd (overI R E i) i = rd E i := by
  unfold overI rd
  rw [List.getD_eq_getElem?_getD, List.getD_eq_getElem?_getD, List.getElem?_append_right (by simp; omega), List.getElem?_drop]
  congr 2
  simp
  omega
theorem overI_set {R E : List Int} {i : Int} (hl : R.length = E.length) (h0 : 0 ≤ i) (h1 : i < R.length) : (overI R E i).set i.toNat (rd R i) = overI R E (i + 1) := by
  unfold overI
  rw [← take_rd h0 h1, List.set_append_right _ _ (by simp; omega), drop_rd (l := E) h0 (by omega)]
  have e2 : i.toNat - (List.take i.toNat R).length = 0 := by simp; omega
  rw [e2]
  simp
theorem fillI_rd {R : List Int} {i : Int} (h0 : 0 ≤ i) (h1 : i < R.length) : rd (fillI R (i + 1)) i = rd R i := by
  unfold fillI
  rw [← take_rd h0 h1]
  unfold rd
  rw [List.getD_eq_getElem?_getD, List.getElem?_append_left (by simp; omega), List.getElem?_append_right (by simp; omega)]
  have e2 : i.toNat - (List.take i.toNat R).length = 0 := by simp; omega
  rw [e2]
  simp
/-! means -/
def rdL (xs : List (List Int)) (i : Int) : List Int := xs.getD i.toNat []
theorem dropL_rd {l : List (List Int)} {i : Int} (h0 : 0 ≤ i) (h1 : i < l.length) : l.drop i.toNat = rdL l i :: l.drop (i + 1).toNat := by
  have e : (i + 1).toNat = i.toNat + 1 := by omega
  rw [e, List.drop_eq_getElem_cons (by omega)]
  unfold rdL
  rw [List.getD_eq_getElem?_getD, List.getElem?_eq_getElem (by omega)]
  rfl
theorem takeL_rd {l : List (List Int)} {i : Int} (h0 : 0 ≤ i) (h1 : i < l.length) : l.take i.toNat ++ [rdL l i] = l.take (i + 1).toNat := by
  have e : (i + 1).toNat = i.toNat + 1 := by omega
  rw [e, List.take_add_one, List.getElem?_eq_getElem (by omega)]
  unfold rdL
  rw [List.getD_eq_getElem?_getD, List.getElem?_eq_getElem (by omega)]
  rfl
theorem rdL_mem {l : List (List Int)} {i : Int} (h0 : 0 ≤ i) (h1 : i < l.length) : rdL l i ∈ l := by
  unfold rdL
  rw [List.getD_eq_getElem?_getD, List.getElem?_eq_getElem (by omega)]
  exact List.getElem_mem _
theorem dropL_len {l : List (List Int)} {i : Int} (h : (l.length : Int) ≤ i) : l.drop i.toNat = [] := List.drop_eq_nil_of_le (by omega)
theorem takeL_len {l : List (List Int)} {i : Int} (h : (l.length : Int) ≤ i) : l.take i.toNat = l := List.take_of_length_le (by omega)
def addC (v r : List Int) : List Int := List.zipWith (fun a b => saddI a (clampI b)) v r
def accA : List Int → List (List Int) → List Int
  | v, r :: rs => accA (addC v r) rs
  | v, [] => v
def colA : Int → Int → List (List Int) → Int
  | s, j, r :: rs => colA (saddI s (clampI (rd r j))) j rs
  | s, _, [] => s
theorem addC_len {v r : List Int} (h : r.length = v.length) : (addC v r).length = v.length := by simp [addC, h]
theorem addC_all64 {v r : List Int} : All64 (addC v r) := by
  intro x hx
  unfold addC at hx
  rw [List.mem_iff_getElem?] at hx
  obtain ⟨i, hi⟩ := hx
  rw [List.getElem?_zipWith] at hi
  split at hi
  · obtain rfl := Option.some.inj hi; exact saddI_range _ _
  · cases hi
theorem accA_all64 : ∀ (v : List Int) (rs : List (List Int)), All64 v → All64 (accA v rs)
  | v, r :: rs, _ => accA_all64 (addC v r) rs addC_all64
  | v, [], h => h
theorem accA_len : ∀ (v : List Int) (rs : List (List Int)), (∀ r ∈ rs, r.length = v.length) → (accA v rs).length = v.length
  | v, r :: rs, h => by
    have h1 := addC_len (h r List.mem_cons_self)
    simp only [accA]
    rw [accA_len (addC v r) rs (fun q hq => by rw [h1]; exact h q (List.mem_cons_of_mem _ hq)), h1]
  | v, [], h => rfl
theorem accA_rd {j : Int} (h0 : 0 ≤ j) : ∀ (v : List Int) (rs : List (List Int)), j < v.length → (∀ r ∈ rs, r.length = v.length) → rd (accA v rs) j = colA (rd v j) j rs
  | v, r :: rs, hj, h => by
    have h1 := addC_len (h r List.mem_cons_self)
    have h2 := h r List.mem_cons_self
    simp only [accA, colA]
    rw [accA_rd h0 (addC v r) rs (by omega) (fun q hq => by rw [h1]; exact h q (List.mem_cons_of_mem _ hq))]
    congr 1
    unfold addC
    rw [rd_zipWith h0 hj (by omega)]
  | v, [], hj, h => rfl
def meanG (n : Nat) (a : Int) : Int := clampI (Int.tdiv a (n : Int))
def meanRow (l : List (List Int)) : List Int := (accA (List.replicate (rdL l 0).length 0) l).map (meanG l.length)
def meanI (l : List (List Int)) : List Int × Int := if l.length = 0 then ([], 21) else if ∀ r ∈ l, r.length = (rdL l 0).length then (meanRow l, 0) else ([], 21)
theorem all64_noughts (n : Nat) : All64 (List.replicate n 0) := by
  intro x hx
  have := List.eq_of_mem_replicate hx
  omega
theorem meanRow_len {l : List (List Int)} (h : ∀ r ∈ l, r.length = (rdL l 0).length) : (meanRow l).length = (rdL l 0).length := by
  unfold meanRow
  rw [List.length_map, accA_len _ _ (by simpa using h)]
  simp
theorem rd_noughts (n : Nat) (j : Int) : rd (List.replicate n 0) j = 0 := by
  unfold rd
  rw [List.getD_eq_getElem?_getD, List.getElem?_replicate]
  split <;> rfl
theorem meanRow_rd {l : List (List Int)} {j : Int} (h0 : 0 ≤ j) (h1 : j < (rdL l 0).length) (h : ∀ r ∈ l, r.length = (rdL l 0).length) : rd (meanRow l) j = meanG l.length (colA 0 j l) := by
  unfold meanRow
  rw [rd_map h0 (by rw [accA_len _ _ (by simpa using h)]; simpa using h1), accA_rd h0 _ _ (by simpa using h1) (by simpa using h), rd_noughts]
theorem colA_range : ∀ (s j : Int) (rs : List (List Int)), -9223372036854775808 ≤ s → s ≤ 9223372036854775807 → -9223372036854775808 ≤ colA s j rs ∧ colA s j rs ≤ 9223372036854775807
  | s, j, r :: rs, h0, h1 => colA_range _ j rs (saddI_range _ _).1 (saddI_range _ _).2
  | s, j, [], h0, h1 => ⟨h0, h1⟩
end Go.Proofs.Ytekaiebfgcjddaa.Mth
