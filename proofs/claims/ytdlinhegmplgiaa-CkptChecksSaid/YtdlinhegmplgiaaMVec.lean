import Derived.Test.YtdlinhegmplgiaaMSat
set_option linter.unusedVariables false
set_option linter.unusedSimpArgs false
namespace Go.Proofs.Ytdlinhegmplgiaa.Mth
open Go Go.RowKit Go.Proofs.YtdlinhegmplgiaaW.PrintWords Go.Proofs.YtdlinhegmplgiaaW.PrintLast
/-! lists and their places -/
def All64 (l : List Int) : Prop := ∀ x ∈ l, -9223372036854775808 ≤ x ∧ x ≤ 9223372036854775807
def All8 (l : List Int) : Prop := ∀ x ∈ l, -128 ≤ x ∧ x ≤ 127
theorem all64 {l : List Int} (h : ∀ x ∈ l, (Lit.int .i64 x).wf = true) : All64 l := fun x hx => wf64 (h x hx)
theorem all8 {l : List Int} (h : ∀ x ∈ l, (Lit.int .i8 x).wf = true) : All8 l := fun x hx => wf8 (h x hx)
theorem All8.to64 {l : List Int} (h : All8 l) : All64 l := fun x hx => by have := h x hx; omega
theorem rd_mem {l : List Int} {i : Int} (h0 : 0 ≤ i) (h1 : i < l.length) : rd l i ∈ l := by
  unfold rd
  rw [List.getD_eq_getElem?_getD, List.getElem?_eq_getElem (by omega)]
  exact List.getElem_mem _
theorem rd64 {l : List Int} (h : All64 l) (i : Int) : -9223372036854775808 ≤ rd l i ∧ rd l i ≤ 9223372036854775807 := by
  unfold rd
  rw [List.getD_eq_getElem?_getD]
  by_cases c : i.toNat < l.length
  · rw [List.getElem?_eq_getElem c]; exact h _ (List.getElem_mem _)
  · rw [List.getElem?_eq_none (by omega)]; simp
theorem rd8 {l : List Int} (h : All8 l) (i : Int) : -128 ≤ rd l i ∧ rd l i ≤ 127 := by
  unfold rd
  rw [List.getD_eq_getElem?_getD]
  by_cases c : i.toNat < l.length
  · rw [List.getElem?_eq_getElem c]; exact h _ (List.getElem_mem _)
  · rw [List.getElem?_eq_none (by omega)]; simp
theorem drop_rd {l : List Int} {i : Int} (h0 : 0 ≤ i) (h1 : i < l.length) : l.drop i.toNat = rd l i :: l.drop (i + 1).toNat := by
  have e : (i + 1).toNat = i.toNat + 1 := by omega
  rw [e, List.drop_eq_getElem_cons (by omega)]
  unfold rd
  rw [List.getD_eq_getElem?_getD, List.getElem?_eq_getElem (by omega)]
  rfl
theorem take_rd {l : List Int} {i : Int} (h0 : 0 ≤ i) (h1 : i < l.length) : l.take i.toNat ++ [rd l i] = l.take (i + 1).toNat := by
  have e : (i + 1).toNat = i.toNat + 1 := by omega
  rw [e, List.take_add_one, List.getElem?_eq_getElem (by omega)]
  unfold rd
  rw [List.getD_eq_getElem?_getD, List.getElem?_eq_getElem (by omega)]
  rfl
theorem drop_len {l : List Int} {i : Int} (h : (l.length : Int) ≤ i) : l.drop i.toNat = [] := List.drop_eq_nil_of_le (by omega)
theorem take_len {l : List Int} {i : Int} (h : (l.length : Int) ≤ i) : l.take i.toNat = l := List.take_of_length_le (by omega)
/-- a row that is filled from the front, of noughts -/
def fillI (R : List Int) (i : Int) : List Int := R.take i.toNat ++ List.replicate (R.length - i.toNat) 0
theorem fillI_zero (R : List Int) : fillI R 0 = List.replicate R.length 0 := by simp [fillI]
theorem fillI_len {R : List Int} {i : Int} (h1 : i ≤ R.length) : (fillI R i).length = R.length := by simp [fillI]; omega
theorem fillI_end {R : List Int} {i : Int} (h : (R.length : Int) ≤ i) : fillI R i = R := by
  unfold fillI
  rw [take_len h, show R.length - i.toNat = 0 by omega]
  simp
theorem fillI_set {R : List Int} {i : Int} (h0 : 0 ≤ i) (h1 : i < R.length) : (fillI R i).set i.toNat (rd R i) = fillI R (i + 1) := by
  unfold fillI
  rw [← take_rd h0 h1, List.set_append_right _ _ (by simp; omega)]
  have e : R.length - i.toNat = (R.length - (i + 1).toNat) + 1 := by omega
  have e2 : i.toNat - (List.take i.toNat R).length = 0 := by simp; omega
  rw [e, e2, List.replicate_succ]
  simp
theorem rd_map {f : Int → Int} {l : List Int} {i : Int} (h0 : 0 ≤ i) (h1 : i < l.length) : rd (l.map f) i = f (rd l i) := by
  unfold rd
  rw [List.getD_eq_getElem?_getD, List.getD_eq_getElem?_getD, List.getElem?_map, List.getElem?_eq_getElem (by omega)]
  rfl
theorem rd_zipWith {f : Int → Int → Int} {a b : List Int} {i : Int} (h0 : 0 ≤ i) (h1 : i < a.length) (h2 : i < b.length) : rd (List.zipWith f a b) i = f (rd a i) (rd b i) := by
  unfold rd
  rw [List.getD_eq_getElem?_getD, List.getD_eq_getElem?_getD, List.getD_eq_getElem?_getD, List.getElem?_zipWith, List.getElem?_eq_getElem (by omega : i.toNat < a.length), List.getElem?_eq_getElem (by omega : i.toNat < b.length)]
  rfl
theorem wrapN_succ {j : Nat} (h : j < 9223372036854775807) : wrap64 ((j : Int) + 1) = ((j + 1 : Nat) : Int) := by rw [wrap64_id (by omega) (by omega)]; omega
theorem wrapN_mul {j n : Nat} (h : j * n ≤ 9223372036854775807) : wrap64 ((j : Int) * (n : Int)) = ((j * n : Nat) : Int) := by rw [← Int.natCast_mul]; exact wrap64_id (by omega) (by omega)
/-! sums of products -/
def dotA : Int → List Int → List Int → Int
  | s, a :: as, b :: bs => dotA (saddI s (clampI a * clampI b)) as bs
  | s, _, _ => s
def dotI (w x : List Int) : Int := clampI (rdivI (dotA 0 w x) 6)
def innerI (a b : List Int) : Int := clampI (rdivI (dotA 0 a b) 16)
def mat1 (n : Nat) (x : List Int) : Nat → List Int → List Int
  | 0, _ => []
  | r + 1, w => dotI (w.take n) x :: mat1 n x r (w.drop n)
theorem mat1_len (n : Nat) (x : List Int) : ∀ (r : Nat) (w : List Int), (mat1 n x r w).length = r
  | 0, _ => rfl
  | r + 1, w => by simp [mat1, mat1_len n x r]
theorem mat1_rd (n : Nat) (x : List Int) : ∀ (r : Nat) (w : List Int) (i : Nat), i < r → rd (mat1 n x r w) i = dotI ((w.drop (i * n)).take n) x
  | 0, _, i, h => by omega
  | r + 1, w, 0, h => by simp [mat1, rd]
  | r + 1, w, i + 1, h => by
    have := mat1_rd n x r (w.drop n) i (by omega)
    unfold rd at this ⊢
    simp only [mat1, Int.toNat_natCast, List.getD_cons_succ] at this ⊢
    rw [this, List.drop_drop, Nat.succ_mul, Nat.add_comm n]
def addI (a b : List Int) : List Int := List.zipWith (fun x y => clampI (clampI x + clampI y)) a b
def scaleI (x : List Int) (n : Int) : List Int := x.map (fun v => mulI v n)
theorem dotA_range : ∀ (s : Int) (a b : List Int), -9223372036854775808 ≤ s → s ≤ 9223372036854775807 → -9223372036854775808 ≤ dotA s a b ∧ dotA s a b ≤ 9223372036854775807
  | s, a :: as, b :: bs, h0, h1 => dotA_range _ as bs (saddI_range _ _).1 (saddI_range _ _).2
  | s, [], b, h0, h1 => by simp [dotA]; omega
  | s, a :: as, [], h0, h1 => by simp [dotA]; omega
theorem dotA_zero (s : Int) (h0 : -9223372036854775808 ≤ s) (h1 : s ≤ 9223372036854775807) (n : Nat) : ∀ x : List Int, dotA s (List.replicate n 0) x = s := by
  induction n with
  | zero => intro x; simp [dotA]
  | succ n ih =>
    intro x
    cases x with
    | nil => simp [dotA, List.replicate_succ]
    | cons a x =>
      have e : clampI 0 = 0 := by decide
      rw [List.replicate_succ, dotA, e, Int.zero_mul, saddI_id (by omega) (by omega), Int.add_zero]
      exact ih x
theorem dotA_one : ∀ (k n : Nat) (x : List Int), k < n → x.length = n → dotA 0 ((List.replicate n 0).set k 64) x = 64 * clampI (rd x (k : Int))
  | 0, n + 1, a :: x, hk, hx => by
    have e : clampI 64 = 64 := by decide
    have hr := clampI_range a
    rw [List.replicate_succ, List.set_cons_zero, dotA, e, saddI_id (by omega) (by omega), dotA_zero _ (by omega) (by omega)]
    simp [rd]
  | k + 1, n + 1, a :: x, hk, hx => by
    have e : clampI 0 = 0 := by decide
    rw [List.replicate_succ, List.set_cons_succ, dotA, e, Int.zero_mul, saddI_id (by omega) (by omega), Int.add_zero, dotA_one k n x (by omega) (by simpa using hx)]
    simp [rd]
  | k, n + 1, [], hk, hx => by simp at hx
  | k, 0, x, hk, hx => by omega
theorem dot_one {k n : Nat} {x : List Int} (hk : k < n) (hx : x.length = n) : dotI ((List.replicate n 0).set k 64) x = clampI (rd x (k : Int)) := by
  unfold dotI
  rw [dotA_one k n x hk hx, Int.mul_comm]
  have := rdivI_mul (clampI (rd x (k : Int))) 6
  rw [show (2 : Int) ^ 6 = 64 from rfl] at this
  rw [this, clampI_idem]
theorem dot_zero (n : Nat) (x : List Int) : dotI (List.replicate n 0) x = 0 := by
  unfold dotI
  rw [dotA_zero 0 (by omega) (by omega) n x, rdivI_zero]
  decide
/-! sums that leave no bounds -/
def psum : List Int → List Int → Int
  | a :: as, b :: bs => clampI a * clampI b + psum as bs
  | _, _ => 0
theorem dotA_exact (P : Int) (hP : 0 ≤ P) (a : List Int) : ∀ (b : List Int) (s : Int), (∀ x ∈ a, ∀ y ∈ b, -P ≤ clampI x * clampI y ∧ clampI x * clampI y ≤ P) → -4611686018427387904 ≤ s - (a.length : Int) * P → s + (a.length : Int) * P ≤ 4611686018427387904 →
    dotA s a b = s + psum a b ∧ -((a.length : Int) * P) ≤ psum a b ∧ psum a b ≤ (a.length : Int) * P := by
  induction a with
  | nil => intro b s hp h0 h1; refine ⟨?_, ?_, ?_⟩ <;> simp [dotA, psum]
  | cons a as ih =>
    intro b s hp h0 h1
    have hL : 0 ≤ (as.length : Int) * P := Int.mul_nonneg (by omega) hP
    have e : ((a :: as).length : Int) * P = (as.length : Int) * P + P := by rw [List.length_cons, Int.natCast_add, Int.add_mul]; simp
    rw [e] at h0 h1 ⊢
    cases b with
    | nil =>
      refine ⟨?_, ?_, ?_⟩
      · simp [dotA, psum]
      · simp only [psum]; omega
      · simp only [psum]; omega
    | cons b bs =>
      have hab := hp a (by simp) b (by simp)
      obtain ⟨i1, i2, i3⟩ := ih bs (s + clampI a * clampI b) (fun x hx y hy => hp x (List.mem_cons_of_mem _ hx) y (List.mem_cons_of_mem _ hy)) (by omega) (by omega)
      rw [dotA, psum, saddI_id (by omega) (by omega), i1]
      omega
theorem psum_append : ∀ (a a' b b' : List Int), a.length = b.length → psum (a ++ a') (b ++ b') = psum a b + psum a' b'
  | [], a', [], b', h => by simp [psum]
  | x :: a, a', y :: b, b', h => by
    have := psum_append a a' b b' (by simpa using h)
    simp only [List.cons_append, psum, this]
    omega
  | [], a', y :: b, b', h => by simp at h
  | x :: a, a', [], b', h => by simp at h
theorem psum_reverse : ∀ (a b : List Int), a.length = b.length → psum a.reverse b.reverse = psum a b
  | [], [], h => rfl
  | x :: a, y :: b, h => by
    have hl : a.length = b.length := by simpa using h
    rw [List.reverse_cons, List.reverse_cons, psum_append _ _ _ _ (by simpa using hl), psum_reverse a b hl]
    simp only [psum]
    omega
  | [], y :: b, h => by simp at h
  | x :: a, [], h => by simp at h
theorem psum_comm : ∀ (a b : List Int), psum a b = psum b a
  | [], [] => rfl
  | [], y :: b => rfl
  | x :: a, [] => rfl
  | x :: a, y :: b => by rw [psum, psum, psum_comm a b, Int.mul_comm]
theorem nclamp6 : nclampI 6 = 6 := by decide
theorem nclamp16 : nclampI 16 = 16 := by decide
theorem shift_at {x n : Int} {m : Nat} (h : nclampI n = m) : shiftI x n = rdivI x m := by unfold shiftI; rw [h]
end Go.Proofs.Ytdlinhegmplgiaa.Mth
