import Derived.Test.YtbnbhdlgehoaaaaMShare
set_option linter.unusedVariables false
set_option linter.unusedSimpArgs false
namespace Go.Proofs.Ytbnbhdlgehoaaaa.Mth
open Go Go.RowKit Go.Proofs.YtbnbhdlgehoaaaaW.PrintWords Go.Proofs.YtbnbhdlgehoaaaaW.PrintLast
/-! one head -/
def Fit (q : List Int) (K V : List (List Int)) : Prop := q.length ≠ 0 ∧ K.length ≠ 0 ∧ K.length = V.length ∧ (∀ r ∈ K, r.length = q.length) ∧ ∀ r ∈ V, r.length = q.length
instance (q : List Int) (K V : List (List Int)) : Decidable (Fit q K V) := by unfold Fit; infer_instance
def scoresI (q : List Int) (K : List (List Int)) : List Int := K.map fun k => mulI (innerI q k) (rsqrtI ((q.length : Int) * 65536))
def addS (s : Int) (v r : List Int) : List Int := List.zipWith (fun a b => saddI a (s * clampI b)) v r
def accS : List Int → List Int → List (List Int) → List Int
  | v, s :: ss, r :: rs => accS (addS s v r) ss rs
  | v, _, _ => v
def colS : Int → Int → List Int → List (List Int) → Int
  | a, j, s :: ss, r :: rs => colS (saddI a (s * clampI (rd r j))) j ss rs
  | a, _, _, _ => a
def outG (a : Int) : Int := clampI (rdivI a 16)
def headRow (q : List Int) (K V : List (List Int)) : List Int := (accS (List.replicate q.length 0) (softI (scoresI q K)) V).map outG
def headI (q : List Int) (K V : List (List Int)) : List Int × Int := if Fit q K V then (headRow q K V, 0) else ([], 21)
theorem scoresI_len (q : List Int) (K : List (List Int)) : (scoresI q K).length = K.length := by simp [scoresI]
theorem addS_len {s : Int} {v r : List Int} (h : r.length = v.length) : (addS s v r).length = v.length := by simp [addS, h]
theorem addS_all64 {s : Int} {v r : List Int} : All64 (addS s v r) := by
  intro x hx
  unfold addS at hx
  rw [List.mem_iff_getElem?] at hx
  obtain ⟨i, hi⟩ := hx
  rw [List.getElem?_zipWith] at hi
  split at hi
  · obtain rfl := Option.some.inj hi; exact saddI_range _ _
  · cases hi
theorem accS_all64 : ∀ (v ss : List Int) (rs : List (List Int)), All64 v → All64 (accS v ss rs)
  | v, s :: ss, r :: rs, _ => accS_all64 (addS s v r) ss rs addS_all64
  | v, [], _, h => h
  | v, _ :: _, [], h => h
theorem accS_len : ∀ (v ss : List Int) (rs : List (List Int)), (∀ r ∈ rs, r.length = v.length) → (accS v ss rs).length = v.length
  | v, s :: ss, r :: rs, h => by
    have h1 := addS_len (s := s) (h r List.mem_cons_self)
    simp only [accS]
    rw [accS_len (addS s v r) ss rs (fun q hq => by rw [h1]; exact h q (List.mem_cons_of_mem _ hq)), h1]
  | v, [], _, h => rfl
  | v, _ :: _, [], h => rfl
theorem accS_rd {j : Int} (h0 : 0 ≤ j) : ∀ (v ss : List Int) (rs : List (List Int)), j < v.length → (∀ r ∈ rs, r.length = v.length) → rd (accS v ss rs) j = colS (rd v j) j ss rs
  | v, s :: ss, r :: rs, hj, h => by
    have h1 := addS_len (s := s) (h r List.mem_cons_self)
    have h2 := h r List.mem_cons_self
    simp only [accS, colS]
    rw [accS_rd h0 (addS s v r) ss rs (by omega) (fun q hq => by rw [h1]; exact h q (List.mem_cons_of_mem _ hq))]
    congr 1
    unfold addS
    rw [rd_zipWith h0 hj (by omega)]
  | v, [], _, hj, h => rfl
  | v, _ :: _, [], hj, h => rfl
theorem headRow_len {q : List Int} {K V : List (List Int)} (h : Fit q K V) : (headRow q K V).length = q.length := by
  unfold headRow
  rw [List.length_map, accS_len _ _ _ (by simpa using h.2.2.2.2)]
  simp
theorem headI_len (q : List Int) (K V : List (List Int)) : (headI q K V).1.length ≤ q.length := by
  unfold headI
  split
  · rename_i h; simp only []; rw [headRow_len h]; exact Nat.le_refl _
  · simp
theorem headRow_rd {q : List Int} {K V : List (List Int)} {j : Int} (h0 : 0 ≤ j) (h1 : j < q.length) (h : Fit q K V) : rd (headRow q K V) j = outG (colS 0 j (softI (scoresI q K)) V) := by
  unfold headRow
  rw [rd_map h0 (by rw [accS_len _ _ _ (by simpa using h.2.2.2.2)]; simpa using h1), accS_rd h0 _ _ _ (by simpa using h1) (by simpa using h.2.2.2.2), rd_noughts]
theorem divI_range (a b : Int) : -2147483648 ≤ divI a b ∧ divI a b ≤ 2147483647 := by
  unfold divI
  split
  · split
    · omega
    · split <;> omega
  · exact clampI_range _
theorem softI_mem {x : List Int} : ∀ s ∈ softI x, -2147483648 ≤ s ∧ s ≤ 2147483647 := by
  intro s hs
  unfold softI at hs
  obtain ⟨e, -, rfl⟩ := List.mem_map.1 hs
  exact divI_range _ _
theorem share_prod {s : Int} (b : Int) (h0 : -2147483648 ≤ s) (h1 : s ≤ 2147483647) : -4611686018427387904 ≤ s * clampI b ∧ s * clampI b ≤ 4611686018427387904 := by
  have hc := clampI_range b
  have := prod_range (x := s) (y := clampI b) (A := 2147483648) (B := 2147483648) (by omega) (by omega) (by omega) (by omega)
  omega
/-! between the least and the greatest -/
def lowF : Int → Int → List (List Int) → Int
  | m, j, r :: rs => lowF (mn m (clampI (rd r j))) j rs
  | m, _, [] => m
def highF : Int → Int → List (List Int) → Int
  | m, j, r :: rs => highF (mx m (clampI (rd r j))) j rs
  | m, _, [] => m
theorem lowF_le : ∀ (m j : Int) (rs : List (List Int)), lowF m j rs ≤ m ∧ (∀ r ∈ rs, lowF m j rs ≤ clampI (rd r j)) ∧ (-2147483648 ≤ m → -2147483648 ≤ lowF m j rs)
  | m, j, [] => ⟨Int.le_refl _, by simp, fun h => h⟩
  | m, j, r :: rs => by
    obtain ⟨h1, h2, h3⟩ := lowF_le (mn m (clampI (rd r j))) j rs
    have hc := clampI_range (rd r j)
    have hm : mn m (clampI (rd r j)) ≤ m ∧ mn m (clampI (rd r j)) ≤ clampI (rd r j) ∧ (-2147483648 ≤ m → -2147483648 ≤ mn m (clampI (rd r j))) := by unfold mn; split <;> omega
    simp only [lowF]
    refine ⟨by omega, fun u hu => ?_, fun h => h3 (hm.2.2 h)⟩
    rcases List.mem_cons.1 hu with rfl | h
    · omega
    · exact h2 u h
theorem highF_ge : ∀ (m j : Int) (rs : List (List Int)), m ≤ highF m j rs ∧ (∀ r ∈ rs, clampI (rd r j) ≤ highF m j rs) ∧ (m ≤ 2147483647 → highF m j rs ≤ 2147483647)
  | m, j, [] => ⟨Int.le_refl _, by simp, fun h => h⟩
  | m, j, r :: rs => by
    obtain ⟨h1, h2, h3⟩ := highF_ge (mx m (clampI (rd r j))) j rs
    have hc := clampI_range (rd r j)
    have hm : m ≤ mx m (clampI (rd r j)) ∧ clampI (rd r j) ≤ mx m (clampI (rd r j)) ∧ (m ≤ 2147483647 → mx m (clampI (rd r j)) ≤ 2147483647) := by unfold mx; split <;> omega
    simp only [highF]
    refine ⟨by omega, fun u hu => ?_, fun h => h3 (hm.2.2 h)⟩
    rcases List.mem_cons.1 hu with rfl | h
    · omega
    · exact h2 u h
theorem colS_between {L H j : Int} (hL0 : -2147483648 ≤ L) (hL1 : L ≤ 0) (hH0 : 0 ≤ H) (hH1 : H ≤ 2147483647) : ∀ (ss : List Int) (rs : List (List Int)) (a t : Int), (∀ s ∈ ss, 0 ≤ s) → (∀ r ∈ rs, L ≤ clampI (rd r j) ∧ clampI (rd r j) ≤ H) → 0 ≤ t → t + ss.sum ≤ 65536 → t * L ≤ a → a ≤ t * H → 65536 * L ≤ colS a j ss rs ∧ colS a j ss rs ≤ 65536 * H := by
  intro ss
  induction ss with
  | nil =>
    intro rs a t _ _ ht hs h0 h1
    have e : colS a j [] rs = a := by cases rs <;> rfl
    rw [List.sum_nil] at hs
    rw [e]
    have := Int.mul_le_mul_of_nonneg_right (show t ≤ 65536 by omega) hH0
    have := Int.mul_le_mul_of_nonpos_right (show t ≤ 65536 by omega) hL1
    omega
  | cons s ss ih =>
    intro rs a t hp hr ht hs h0 h1
    have h65 := Int.mul_le_mul_of_nonneg_right (show t ≤ 65536 by
      have : 0 ≤ (s :: ss).sum := by
        have : ∀ l : List Int, (∀ s ∈ l, 0 ≤ s) → 0 ≤ l.sum := by
          intro l
          induction l with
          | nil => intro _; simp
          | cons a as ih2 => intro h; rw [List.sum_cons]; have := ih2 fun e he => h e (List.mem_cons_of_mem _ he); have := h a List.mem_cons_self; omega
        exact this _ hp
      omega) hH0
    cases rs with
    | nil =>
      simp only [colS]
      have h3 : 0 ≤ (s :: ss).sum := by
        have : ∀ l : List Int, (∀ s ∈ l, 0 ≤ s) → 0 ≤ l.sum := by
          intro l
          induction l with
          | nil => intro _; simp
          | cons a as ih2 => intro h; rw [List.sum_cons]; have := ih2 fun e he => h e (List.mem_cons_of_mem _ he); have := h a List.mem_cons_self; omega
        exact this _ hp
      have := Int.mul_le_mul_of_nonpos_right (show t ≤ 65536 by omega) hL1
      omega
    | cons r rs =>
      have hs0 := hp s List.mem_cons_self
      have hv := hr r List.mem_cons_self
      have g1 := Int.mul_le_mul_of_nonneg_left hv.1 hs0
      have g2 := Int.mul_le_mul_of_nonneg_left hv.2 hs0
      have e1 : (t + s) * L = t * L + s * L := Int.add_mul _ _ _
      have e2 : (t + s) * H = t * H + s * H := Int.add_mul _ _ _
      rw [List.sum_cons] at hs
      have h3 : 0 ≤ ss.sum := by
        have : ∀ l : List Int, (∀ s ∈ l, 0 ≤ s) → 0 ≤ l.sum := by
          intro l
          induction l with
          | nil => intro _; simp
          | cons a as ih2 => intro h; rw [List.sum_cons]; have := ih2 fun e he => h e (List.mem_cons_of_mem _ he); have := h a List.mem_cons_self; omega
        exact this _ fun e he => hp e (List.mem_cons_of_mem _ he)
      have f1 := Int.mul_le_mul_of_nonneg_right (show t + s ≤ 65536 by omega) hH0
      have f2 := Int.mul_le_mul_of_nonpos_right (show t + s ≤ 65536 by omega) hL1
      have b1 : -9223372036854775808 ≤ a + s * clampI (rd r j) ∧ a + s * clampI (rd r j) ≤ 9223372036854775807 := by omega
      simp only [colS]
      rw [saddI_id b1.1 b1.2]
      exact ih rs (a + s * clampI (rd r j)) (t + s) (fun e he => hp e (List.mem_cons_of_mem _ he)) (fun e he => hr e (List.mem_cons_of_mem _ he)) (by omega) (by omega) (by omega) (by omega)
theorem head_between {q : List Int} {K V : List (List Int)} {j : Int} (h0 : 0 ≤ j) (h1 : j < q.length) (h : Fit q K V) (hb : K.length ≤ 1000) : lowF 0 j V ≤ rd (headRow q K V) j ∧ rd (headRow q K V) j ≤ highF 0 j V := by
  rw [headRow_rd h0 h1 h]
  obtain ⟨l1, l2, l3⟩ := lowF_le 0 j V
  obtain ⟨g1, g2, g3⟩ := highF_ge 0 j V
  have l4 := l3 (by decide)
  have g4 := g3 (by decide)
  have hS := softI_len (scoresI q K)
  have hL := scoresI_len q K
  have hsum := soft_take (x := scoresI q K) (by omega) (softI (scoresI q K)).length
  rw [List.take_length] at hsum
  have hpos : ∀ s ∈ softI (scoresI q K), 0 ≤ s := by
    intro s hs
    rw [List.mem_iff_getElem] at hs
    obtain ⟨i, hi, rfl⟩ := hs
    have := (soft_part (x := scoresI q K) (i := (i : Int)) (by omega) (by omega) (by omega)).1
    unfold rd at this
    rw [List.getD_eq_getElem?_getD, Int.toNat_natCast, List.getElem?_eq_getElem hi] at this
    exact this
  have hc := colS_between (j := j) l4 l1 g1 g4 (softI (scoresI q K)) V 0 0 hpos (fun r hr => ⟨l2 r hr, g2 r hr⟩) (by decide) (by omega) (by omega) (by omega)
  have r1 := rdivI_mono 16 hc.1
  have r2 := rdivI_mono 16 hc.2
  have e1 : rdivI (65536 * lowF 0 j V) 16 = lowF 0 j V := by rw [Int.mul_comm, show (65536 : Int) = 2 ^ 16 by decide, rdivI_mul]
  have e2 : rdivI (65536 * highF 0 j V) 16 = highF 0 j V := by rw [Int.mul_comm, show (65536 : Int) = 2 ^ 16 by decide, rdivI_mul]
  rw [e1] at r1
  rw [e2] at r2
  unfold outG
  rw [clampI_id (by omega) (by omega)]
  exact ⟨r1, r2⟩
end Go.Proofs.Ytbnbhdlgehoaaaa.Mth
