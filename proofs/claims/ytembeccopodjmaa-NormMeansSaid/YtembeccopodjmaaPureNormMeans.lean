/- Mean of the program equals that of the reference: for any rows. No condition. -/
import Derived.Test.YtembeccopodjmaaPNormMeansx2
import Derived.Test.YtembeccopodjmaaMSat
import Derived.Test.YtembeccopodjmaaMCurve
import Derived.Test.YtembeccopodjmaaMVec
import Derived.Test.YtembeccopodjmaaMNorm
set_option linter.unusedVariables false
set_option linter.unusedSimpArgs false
namespace Go.Proofs.Ytembeccopodjmaa.Pure
open Go Go.RowKit Go.Proofs.Ytembeccopodjmaa.PNormMeans Go.Proofs.YtembeccopodjmaaW.PrintWords Go.Proofs.YtembeccopodjmaaW.PrintLast Go.Proofs.Ytembeccopodjmaa.Mth
theorem Clamp_eq (x : Int) : sat_Clamp.f x = some (clampI x) := by unfold sat_Clamp.f; rw [clamp_f1]
theorem rClamp_eq (x : Int) : aviaryref01_Clamp.f x = some (clampI x) := by unfold aviaryref01_Clamp.f; rw [clamp_f2]
theorem Add_eq {a b : Int} (ha : -9223372036854775808 ≤ a ∧ a ≤ 9223372036854775807) (hb : -9223372036854775808 ≤ b ∧ b ≤ 9223372036854775807) : sat_Add.f a b = some (saddI a b) := by
  unfold sat_Add.f
  have h := sadd_sign ha.1 ha.2 hb.1 hb.2
  by_cases c : (Go.bits .and .i64 (Go.bits .xor .i64 a (wrap64 (a + b))) (Go.bits .xor .i64 b (wrap64 (a + b)))) ≥ 0
  · rw [if_pos c]
    have h2 := h.1 c
    clear h c
    unfold wrap64 at *
    unfold saddI
    congr 1
    (repeat' split) <;> omega
  · rw [if_neg c]
    have h2 : ¬ ¬ _ := fun z => c (h.2 z)
    have h3 := Classical.not_not.1 h2
    clear h c h2
    unfold wrap64 at *
    unfold saddI
    (repeat' split) <;> first | rfl | omega
theorem rAdd_eq {k : Nat} (hk : 0 < k) {a b : Int} (ha : -9223372036854775808 ≤ a ∧ a ≤ 9223372036854775807) (hb : -9223372036854775808 ≤ b ∧ b ≤ 9223372036854775807) : aviaryref01_Add.f k a b = some (saddI a b) := by
  obtain ⟨k, rfl⟩ : ∃ m, k = m + 1 := ⟨k - 1, by omega⟩
  unfold aviaryref01_Add.f
  by_cases c : b > 0
  · rw [if_pos c, wrap64_id (x := 9223372036854775807 - b) (by omega) (by omega)]
    simp only [aviaryref01_Add.j0]
    by_cases d : a > 9223372036854775807 - b
    · rw [if_pos (by simpa using d)]
      unfold saddI; rw [if_pos (by omega)]
    · rw [if_neg (by simpa using d), if_neg (by omega), wrap64_id (by omega) (by omega)]
      unfold saddI; rw [if_neg (by omega), if_neg (by omega)]
  · rw [if_neg c]
    simp only [aviaryref01_Add.j0]
    rw [if_neg (by decide)]
    by_cases d : b < 0
    · rw [if_pos d, wrap64_id (x := -9223372036854775808 - b) (by omega) (by omega)]
      by_cases e : a < -9223372036854775808 - b
      · rw [if_pos e]; unfold saddI; rw [if_neg (by omega), if_pos (by omega)]
      · rw [if_neg e, wrap64_id (by omega) (by omega)]; unfold saddI; rw [if_neg (by omega), if_neg (by omega)]
    · rw [if_neg d, wrap64_id (by omega) (by omega)]; unfold saddI; rw [if_neg (by omega), if_neg (by omega)]
theorem Same_l0 {a b : List Int} (hl : a.length = b.length) (hb : a.length ≤ 4611686018427387904) (d : Nat) : ∀ (k : Nat) (i : Int), 0 ≤ i → (a.length : Int) - i = d → d < k →
    aviaryref04_Same.l0 k a b i = some (decide (a.drop i.toNat = b.drop i.toNat)) := by
  induction d with
  | zero =>
    intro k i h0 hd hk
    obtain ⟨k, rfl⟩ : ∃ m, k = m + 1 := ⟨k - 1, by omega⟩
    simp only [aviaryref04_Same.l0]
    rw [if_neg (by omega), drop_len (by omega), drop_len (by omega)]
    simp
  | succ d ih =>
    intro k i h0 hd hk
    obtain ⟨k, rfl⟩ : ∃ m, k = m + 1 := ⟨k - 1, by omega⟩
    simp only [aviaryref04_Same.l0]
    rw [if_pos (by omega), if_pos h0, if_pos (by omega), drop_rd (l := a) h0 (by omega), drop_rd (l := b) h0 (by omega)]
    by_cases c : rd a i = rd b i
    · rw [if_pos c, wrap64_id (x := i + 1) (by omega) (by omega), ih k (i + 1) (by omega) (by omega) (by omega), c]
      simp
    · rw [if_neg c]
      simp [c]
theorem Same_eq {k : Nat} {a b : List Int} (hb : a.length ≤ 4611686018427387904) (hk : a.length < k) : aviaryref04_Same.f k a b = some (decide (a = b)) := by
  unfold aviaryref04_Same.f
  by_cases c : a.length = b.length
  · rw [if_pos (by omega), Same_l0 c hb a.length k 0 (by omega) (by omega) hk]
    rfl
  · rw [if_neg (by omega)]
    have : a ≠ b := fun h => c (by rw [h])
    simp [this]
theorem Same_refl {k : Nat} {a : List Int} (hb : a.length ≤ 4611686018427387904) (hk : a.length < k) : aviaryref04_Same.f k a a = some true := by rw [Same_eq hb hk]; simp
theorem Mean_l2 {l : List (List Int)} {V : List Int} (hn : 0 < l.length) (hV : All64 V) (hb : V.length ≤ 4611686018427387904) (d : Nat) : ∀ (k : Nat) (i : Int), 0 ≤ i → (V.length : Int) - i = d → d < k →
    norm_Mean.l2 k l (overI (V.map (meanG l.length)) V i) (V.length : Int) i = some (V.map (meanG l.length), 0) := by
  have hL : (V.map (meanG l.length)).length = V.length := by simp
  induction d with
  | zero =>
    intro k i h0 hd hk
    obtain ⟨k, rfl⟩ : ∃ m, k = m + 1 := ⟨k - 1, by omega⟩
    simp only [norm_Mean.l2]
    rw [if_neg (by omega), overI_end hL (by omega)]
  | succ d ih =>
    intro k i h0 hd hk
    obtain ⟨k, rfl⟩ : ∃ m, k = m + 1 := ⟨k - 1, by omega⟩
    have hr := rd64 hV i
    have ht := tdiv64 (b := (l.length : Int)) hr.1 hr.2 (by omega)
    simp only [norm_Mean.l2]
    rw [if_pos (by omega), if_pos h0, if_pos (by rw [overI_len hL]; omega), if_neg (by omega), overI_rd hL h0 (by omega), wrap64_id ht.1 ht.2, Clamp_eq]; simp only [Option.bind_some]
    have e : clampI (Int.tdiv (rd V i) (l.length : Int)) = rd (V.map (meanG l.length)) i := by rw [rd_map h0 (by omega)]; rfl
    rw [e, overI_set hL h0 (by omega), wrap64_id (x := i + 1) (by omega) (by omega)]
    exact ih k (i + 1) (by omega) (by omega) (by omega)
theorem Mean_l1 {l : List (List Int)} {v r : List Int} {i : Int} {R : Option (List Int × Int)} {K : Nat} (hv : All64 v) (hl : r.length = v.length) (hb : v.length ≤ 4611686018427387904) (hR : ∀ k, K ≤ k → norm_Mean.l0 k l (addC v r) l (l.length : Int) (wrap64 (i + 1)) = R) (d : Nat) : ∀ (k : Nat) (j : Int), 0 ≤ j → (v.length : Int) - j = d → K + d + 1 ≤ k →
    norm_Mean.l1 k l (overI (addC v r) v j) r l (l.length : Int) i (r.length : Int) j = R := by
  have hL : (addC v r).length = v.length := addC_len hl
  induction d with
  | zero =>
    intro k j h0 hd hk
    obtain ⟨k, rfl⟩ : ∃ m, k = m + 1 := ⟨k - 1, by omega⟩
    simp only [norm_Mean.l1]
    rw [if_neg (by omega), overI_end hL (by omega)]
    exact hR k (by omega)
  | succ d ih =>
    intro k j h0 hd hk
    obtain ⟨k, rfl⟩ : ∃ m, k = m + 1 := ⟨k - 1, by omega⟩
    have hr := rd64 hv j
    have hc := clampI_range (rd r j)
    simp only [norm_Mean.l1]
    rw [if_pos (by omega), if_pos h0, if_pos (by rw [overI_len hL]; omega), if_pos (by omega), Clamp_eq]; simp only [Option.bind_some]
    rw [overI_rd hL h0 (by omega), Add_eq hr ⟨by omega, by omega⟩]; simp only [Option.bind_some]
    have e : saddI (rd v j) (clampI (rd r j)) = rd (addC v r) j := by unfold addC; rw [rd_zipWith h0 (by omega) (by omega)]
    rw [e, overI_set hL h0 (by omega), wrap64_id (x := j + 1) (by omega) (by omega)]
    exact ih k (j + 1) (by omega) (by omega) (by omega)
theorem Mean_l0 {l : List (List Int)} (hn : 0 < l.length) (hb : l.length ≤ 4611686018427387904) (d : Nat) : ∀ (v : List Int) (i : Int), All64 v → v.length ≤ 4611686018427387904 → 0 ≤ i → (l.length : Int) - i = d →
    ∃ K, ∀ k, K ≤ k → norm_Mean.l0 k l v l (l.length : Int) i = some (if ∀ r ∈ l.drop i.toNat, r.length = v.length then ((accA v (l.drop i.toNat)).map (meanG l.length), 0) else ([], 21)) := by
  induction d with
  | zero =>
    intro v i hv hbv h0 hd
    refine ⟨v.length + 2, fun k hk => ?_⟩
    obtain ⟨k, rfl⟩ : ∃ m, k = m + 1 := ⟨k - 1, by omega⟩
    simp only [norm_Mean.l0]
    rw [if_neg (by omega), dropL_len (by omega), if_pos (by simp)]
    have := Mean_l2 hn hv hbv v.length k 0 (by omega) (by omega) (by omega)
    rw [overI_zero] at this
    exact this
  | succ d ih =>
    intro v i hv hbv h0 hd
    rw [dropL_rd h0 (by omega)]
    by_cases c : (rdL l i).length = v.length
    · have hA := addC_len c
      obtain ⟨K, hK⟩ := ih (addC v (rdL l i)) (i + 1) addC_all64 (by omega) (by omega) (by omega)
      refine ⟨K + v.length + 2, fun k hk => ?_⟩
      obtain ⟨k, rfl⟩ : ∃ m, k = m + 1 := ⟨k - 1, by omega⟩
      have hR : ∀ k, K ≤ k → norm_Mean.l0 k l (addC v (rdL l i)) l (l.length : Int) (wrap64 (i + 1)) = some (if ∀ r ∈ l.drop (i + 1).toNat, r.length = v.length then ((accA (addC v (rdL l i)) (l.drop (i + 1).toNat)).map (meanG l.length), 0) else ([], 21)) := by
        intro k hk
        rw [wrap64_id (x := i + 1) (by omega) (by omega), hK k hk, hA]
      have h1 := Mean_l1 hv c hbv hR v.length k 0 (by omega) (by omega) (by omega)
      rw [overI_zero] at h1
      simp only [norm_Mean.l0]
      rw [show rd_L1 = rdL from rfl, if_pos (by omega), if_pos h0, if_pos (by omega), if_pos (by omega), h1]
      simp only [List.forall_mem_cons, c, true_and]
      rfl
    · refine ⟨1, fun k hk => ?_⟩
      obtain ⟨k, rfl⟩ : ∃ m, k = m + 1 := ⟨k - 1, by omega⟩
      simp only [norm_Mean.l0]
      rw [show rd_L1 = rdL from rfl, if_pos (by omega), if_pos h0, if_pos (by omega), if_neg (by omega), if_neg (by simp only [List.forall_mem_cons, c, false_and, not_false_eq_true])]
theorem Mean_eq {l : List (List Int)} (hb : l.length ≤ 4611686018427387904) (hr : (rdL l 0).length ≤ 35184372088832) : ∃ K, ∀ k, K ≤ k → norm_Mean.f k l = some (meanI l) := by
  unfold norm_Mean.f meanI
  by_cases c : l.length = 0
  · refine ⟨0, fun k _ => ?_⟩
    rw [if_pos (by omega), if_pos c]
  · obtain ⟨K, hK⟩ := Mean_l0 (l := l) (by omega) hb l.length (List.replicate (rdL l 0).length 0) 0 (all64_noughts _) (by simp; omega) (by omega) (by omega)
    refine ⟨K, fun k hk => ?_⟩
    rw [if_neg (by omega), if_neg c, show rd_L1 = rdL from rfl, if_pos (by omega), if_pos (by omega), if_pos (by omega), Int.toNat_natCast, hK k hk]
    simp only [Int.toNat_zero, List.drop_zero, List.length_replicate]
    rfl
theorem rMean_l2 {l : List (List Int)} {v : List Int} {j : Int} {R : Option (List Int × Int)} {K : Nat} (hn : 0 < l.length) (hb : l.length ≤ 4611686018427387904) (hv : v.length < 17592186044416) (hj : 0 ≤ j) (hl : ∀ r ∈ l, j < r.length) (d : Nat) : ∀ (k : Nat) (s i : Int), 0 ≤ i → (l.length : Int) - i = d → K + d + 1 ≤ k → 0 < K → -9223372036854775808 ≤ s → s ≤ 9223372036854775807 →
    (∀ k, K ≤ k → aviaryref05_Mean.l1 k l (v ++ [meanG l.length (colA s j (l.drop i.toNat))]) (wrap64 (j + 1)) = R) →
    aviaryref05_Mean.l2 k l v j s i = R := by
  induction d with
  | zero =>
    intro k s i h0 hd hk hK hs0 hs1 hR
    obtain ⟨k, rfl⟩ : ∃ m, k = m + 1 := ⟨k - 1, by omega⟩
    have ht := tdiv64 (b := (l.length : Int)) hs0 hs1 (by omega)
    rw [dropL_len (by omega)] at hR
    simp only [aviaryref05_Mean.l2]
    rw [if_neg (by omega), if_neg (by omega), wrap64_id ht.1 ht.2, rClamp_eq]; simp only [Option.bind_some]
    rw [if_pos hv]
    exact hR k (by omega)
  | succ d ih =>
    intro k s i h0 hd hk hK hs0 hs1 hR
    obtain ⟨k, rfl⟩ : ∃ m, k = m + 1 := ⟨k - 1, by omega⟩
    have hc := clampI_range (rd (rdL l i) j)
    have hm := hl _ (rdL_mem h0 (show i < l.length by omega))
    rw [dropL_rd h0 (by omega)] at hR
    simp only [aviaryref05_Mean.l2]
    rw [show rd_L1 = rdL from rfl, if_pos (by omega), if_pos h0, if_pos hj, if_pos hm, rClamp_eq]; simp only [Option.bind_some]
    rw [rAdd_eq (by omega) ⟨hs0, hs1⟩ ⟨by omega, by omega⟩]; simp only [Option.bind_some]
    rw [wrap64_id (x := i + 1) (by omega) (by omega)]
    exact ih k _ (i + 1) (by omega) (by omega) (by omega) hK (saddI_range _ _).1 (saddI_range _ _).2 hR
theorem rMean_l1 {l : List (List Int)} (hn : 0 < l.length) (hb : l.length ≤ 4611686018427387904) (hr : (rdL l 0).length ≤ 17592186044416) (hl : ∀ r ∈ l, r.length = (rdL l 0).length) (d : Nat) : ∀ (j : Int), 0 ≤ j → ((rdL l 0).length : Int) - j = d →
    ∃ K, ∀ k, K ≤ k → aviaryref05_Mean.l1 k l ((meanRow l).take j.toNat) j = some (meanRow l, 0) := by
  have hL := meanRow_len hl
  induction d with
  | zero =>
    intro j h0 hd
    refine ⟨1, fun k hk => ?_⟩
    obtain ⟨k, rfl⟩ : ∃ m, k = m + 1 := ⟨k - 1, by omega⟩
    simp only [aviaryref05_Mean.l1]
    rw [show rd_L1 = rdL from rfl, if_pos (by omega), if_neg (by omega), take_len (by omega)]
  | succ d ih =>
    intro j h0 hd
    obtain ⟨K, hK⟩ := ih (j + 1) (by omega) (by omega)
    refine ⟨K + l.length + 3, fun k hk => ?_⟩
    obtain ⟨k, rfl⟩ : ∃ m, k = m + 1 := ⟨k - 1, by omega⟩
    simp only [aviaryref05_Mean.l1]
    rw [show rd_L1 = rdL from rfl, if_pos (by omega), if_pos (by omega)]
    refine rMean_l2 (K := K + 1) hn hb (by rw [List.length_take]; omega) h0 (fun r hr => by rw [hl r hr]; omega) l.length k 0 0 (by omega) (by omega) (by omega) (by omega) (by omega) (by omega) (fun k hk => ?_)
    rw [Int.toNat_zero, List.drop_zero, ← meanRow_rd h0 (by omega) hl, take_rd h0 (by omega), wrap64_id (x := j + 1) (by omega) (by omega)]
    exact hK k (by omega)
theorem rMean_l0 {l : List (List Int)} (hn : 0 < l.length) (hb : l.length ≤ 4611686018427387904) (hr : (rdL l 0).length ≤ 17592186044416) (d : Nat) : ∀ (i : Int), 0 ≤ i → (l.length : Int) - i = d → (∀ r ∈ l.take i.toNat, r.length = (rdL l 0).length) →
    ∃ K, ∀ k, K ≤ k → aviaryref05_Mean.l0 k l i = some (if ∀ r ∈ l, r.length = (rdL l 0).length then (meanRow l, 0) else ([], 21)) := by
  induction d with
  | zero =>
    intro i h0 hd ht
    rw [takeL_len (by omega)] at ht
    obtain ⟨K, hK⟩ := rMean_l1 hn hb hr ht (rdL l 0).length 0 (by omega) (by omega)
    refine ⟨K + 1, fun k hk => ?_⟩
    obtain ⟨k, rfl⟩ : ∃ m, k = m + 1 := ⟨k - 1, by omega⟩
    simp only [aviaryref05_Mean.l0]
    rw [if_neg (by omega), if_pos ht]
    exact hK k (by omega)
  | succ d ih =>
    intro i h0 hd ht
    by_cases c : (rdL l i).length = (rdL l 0).length
    · obtain ⟨K, hK⟩ := ih (i + 1) (by omega) (by omega) (by
        rw [← takeL_rd h0 (by omega)]
        intro r hr
        rcases List.mem_append.1 hr with h | h
        · exact ht r h
        · rw [List.mem_singleton.1 h]; exact c)
      refine ⟨K + 1, fun k hk => ?_⟩
      obtain ⟨k, rfl⟩ : ∃ m, k = m + 1 := ⟨k - 1, by omega⟩
      simp only [aviaryref05_Mean.l0]
      rw [show rd_L1 = rdL from rfl, if_pos (by omega), if_pos h0, if_pos (by omega), if_pos (by omega), wrap64_id (x := i + 1) (by omega) (by omega)]
      exact hK k (by omega)
    · refine ⟨1, fun k hk => ?_⟩
      obtain ⟨k, rfl⟩ : ∃ m, k = m + 1 := ⟨k - 1, by omega⟩
      simp only [aviaryref05_Mean.l0]
      rw [show rd_L1 = rdL from rfl, if_pos (by omega), if_pos h0, if_pos (by omega), if_neg (by omega), if_neg (fun h => c (h _ (rdL_mem h0 (by omega))))]
theorem rMean_eq {l : List (List Int)} (hb : l.length ≤ 4611686018427387904) (hr : (rdL l 0).length ≤ 17592186044416) : ∃ K, ∀ k, K ≤ k → aviaryref05_Mean.f k l = some (meanI l) := by
  unfold aviaryref05_Mean.f meanI
  by_cases c : l.length = 0
  · refine ⟨0, fun k _ => ?_⟩
    rw [if_pos (by omega), if_pos c]
  · obtain ⟨K, hK⟩ := rMean_l0 (l := l) (by omega) hb hr l.length 0 (by omega) (by omega) (by simp)
    refine ⟨K, fun k hk => ?_⟩
    rw [if_neg (by omega), if_neg c, hK k hk]

theorem means_l0 {l : List (List Int)} (hb : l.length ≤ 5864062014634) (hr : ∀ r ∈ l, r.length ≤ 17592186043904) (d : Nat) : ∀ (i : Int), 0 ≤ i → (l.length : Int) - i = d →
    ∃ k, aviarylaw05_NormMeans.l0 k l (l.take i.toNat) i = some true := by
  have hr0 : (rdL l 0).length ≤ 17592186043904 := by
    by_cases c : l.length = 0
    · have : l = [] := List.eq_nil_of_length_eq_zero c
      subst this
      simp [rdL]
    · exact hr _ (rdL_mem (by omega) (by omega))
  induction d with
  | zero =>
    intro i h0 hd
    obtain ⟨K1, h1⟩ := Mean_eq (l := l) (by omega) (by omega)
    obtain ⟨K2, h2⟩ := rMean_eq (l := l) (by omega) (by omega)
    have hm : (meanI l).1.length ≤ (rdL l 0).length := by
      unfold meanI
      split
      · simp
      · split
        · rename_i h; simp only []; rw [meanRow_len h]; exact Nat.le_refl _
        · simp
    refine ⟨K1 + K2 + (rdL l 0).length + 2, ?_⟩
    rw [show K1 + K2 + (rdL l 0).length + 2 = (K1 + K2 + (rdL l 0).length + 1) + 1 from rfl]
    simp only [aviarylaw05_NormMeans.l0]
    rw [if_neg (by omega), takeL_len (by omega), h1 _ (by omega), Option.bind_some, h2 _ (by omega), Option.bind_some, Same_refl (by omega) (by omega), Option.bind_some, if_pos rfl]
    simp
  | succ d ih =>
    intro i h0 hd
    obtain ⟨k, hk⟩ := ih (i + 1) (by omega) (by omega)
    have hm := hr _ (rdL_mem h0 (show i < l.length by omega))
    refine ⟨k + 1, ?_⟩
    simp only [aviarylaw05_NormMeans.l0, Option.bind_some, List.nil_append, List.length_nil, Nat.zero_add]
    rw [show rd_L1 = rdL from rfl, if_pos (by omega), if_pos h0, if_pos (by omega), if_pos (by rw [List.length_take]; omega), takeL_rd h0 (by omega), wrap64_id (x := i + 1) (by omega) (by omega)]
    exact hk
theorem NormMeans (l : List (List Int)) (hb : l.length * 24 ≤ 140737488351232) (hr : ∀ r ∈ l, r.length * 8 ≤ 140737488351232 ∧ ∀ x ∈ r, (Lit.int .i64 x).wf = true) : ∃ k, aviarylaw05_NormMeans.f k l = some true :=
  means_l0 (by omega) (fun r h => by have := (hr r h).1; omega) l.length 0 (by omega) (by omega)

end Go.Proofs.Ytembeccopodjmaa.Pure
