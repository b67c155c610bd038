import Derived.Test.YtbnbhdlgehoaaaaMNorm
set_option linter.unusedVariables false
set_option linter.unusedSimpArgs false
namespace Go.Proofs.Ytbnbhdlgehoaaaa.Mth
open Go Go.RowKit Go.Proofs.YtbnbhdlgehoaaaaW.PrintWords Go.Proofs.YtbnbhdlgehoaaaaW.PrintLast
/-! shares of one -/
theorem divI_share {e T : Int} (h0 : 0 ≤ e) (h1 : e ≤ T) (h2 : e ≤ 65536) (h3 : T ≤ 2147483647) : divI e T = e * 65536 / T := by
  unfold divI
  rw [clampI_id (x := e) (by omega) (by omega), clampI_id (x := T) (by omega) (by omega)]
  by_cases c : T = 0
  · have : e = 0 := by omega
    subst this
    subst c
    rfl
  · have hp : 0 < T := by omega
    have hq : e * 65536 / T ≤ 65536 := by
      have h4 : e * 65536 ≤ T * 65536 := Int.mul_le_mul_of_nonneg_right h1 (by decide)
      have h5 := Int.ediv_le_ediv hp h4
      rw [Int.mul_ediv_cancel_left _ c] at h5
      exact h5
    have hn : 0 ≤ e * 65536 / T := Int.ediv_nonneg (by omega) (by omega)
    rw [if_neg c, Int.tdiv_eq_ediv_of_nonneg (by omega), clampI_id (by omega) (by omega)]
theorem share_range {e T : Int} (h0 : 0 ≤ e) (h1 : e ≤ T) (h2 : e ≤ 65536) (h3 : T ≤ 2147483647) : 0 ≤ divI e T ∧ divI e T ≤ 65536 := by
  rw [divI_share h0 h1 h2 h3]
  by_cases c : T = 0
  · subst c
    simp
  · have hp : 0 < T := by omega
    have h4 : e * 65536 ≤ T * 65536 := Int.mul_le_mul_of_nonneg_right h1 (by decide)
    have h5 := Int.ediv_le_ediv hp h4
    rw [Int.mul_ediv_cancel_left _ c] at h5
    exact ⟨Int.ediv_nonneg (by omega) (by omega), h5⟩
theorem share_mono {e f T : Int} (h0 : 0 ≤ e) (hef : e ≤ f) (h1 : f ≤ T) (h2 : f ≤ 65536) (h3 : T ≤ 2147483647) : divI e T ≤ divI f T := by
  rw [divI_share h0 (by omega) (by omega) h3, divI_share (by omega) h1 h2 h3]
  by_cases c : T = 0
  · subst c
    simp
  · exact Int.ediv_le_ediv (by omega) (by omega)
theorem mem_sum {l : List Int} (h : ∀ e ∈ l, 0 ≤ e ∧ e ≤ 65536) : ∀ e ∈ l, e ≤ l.sum := by
  induction l with
  | nil => simp
  | cons a as ih =>
    have hs := sum_parts (l := as) fun e he => h e (List.mem_cons_of_mem _ he)
    have ha := h a List.mem_cons_self
    intro e he
    rw [List.sum_cons]
    rcases List.mem_cons.1 he with rfl | h1
    · omega
    · have := ih (fun e he => h e (List.mem_cons_of_mem _ he)) e h1
      omega
theorem shares_sum (T : Int) (hT : 0 ≤ T) (h3 : T ≤ 2147483647) : ∀ l : List Int, (∀ e ∈ l, 0 ≤ e ∧ e ≤ 65536 ∧ e ≤ T) → 0 ≤ (l.map fun e => divI e T).sum ∧ (l.map fun e => divI e T).sum * T ≤ l.sum * 65536
  | [], _ => by simp
  | a :: as, h => by
    obtain ⟨i1, i2⟩ := shares_sum T hT h3 as fun e he => h e (List.mem_cons_of_mem _ he)
    have ha := h a List.mem_cons_self
    have hr := share_range ha.1 ha.2.2 ha.2.1 h3
    have hd : divI a T * T ≤ a * 65536 := by
      rw [divI_share ha.1 ha.2.2 ha.2.1 h3]
      by_cases c : T = 0
      · rw [c, Int.mul_zero]; omega
      · exact Int.ediv_mul_le _ c
    rw [List.map_cons, List.sum_cons, List.sum_cons, Int.add_mul, Int.add_mul]
    omega
theorem nought_sum (l : List Int) : (l.map fun _ => (0 : Int)).sum = 0 := by
  induction l with
  | nil => rfl
  | cons a as ih => rw [List.map_cons, List.sum_cons, ih]; rfl
theorem take_map_sum {f : Int → Int} (l : List Int) (i : Nat) : ((l.map f).take i) = (l.take i).map f := List.map_take.symm
theorem soft_take {x : List Int} (hb : x.length ≤ 1000) (i : Nat) : 0 ≤ ((softI x).take i).sum ∧ ((softI x).take i).sum ≤ 65536 := by
  unfold softI
  have hp := expsI_parts (topI x) x
  have hs := sum_parts hp
  have hm := mem_sum hp
  have hl := expsI_len (topI x) x
  rw [take_map_sum]
  generalize expsI (topI x) x = E at *
  have h3 : E.sum ≤ 2147483647 := by omega
  obtain ⟨s1, s2⟩ := shares_sum E.sum hs.1 h3 (E.take i) fun e he => ⟨(hp e (List.mem_of_mem_take he)).1, (hp e (List.mem_of_mem_take he)).2, hm e (List.mem_of_mem_take he)⟩
  refine ⟨s1, ?_⟩
  have ht : (E.take i).sum ≤ E.sum := by
    have e1 : E.sum = (E.take i).sum + (E.drop i).sum := by rw [← List.sum_append, List.take_append_drop]
    have := sum_parts (l := E.drop i) fun e he => hp e (List.mem_of_mem_drop he)
    omega
  by_cases c : E.sum = 0
  · have hz : ∀ e ∈ E.take i, divI e E.sum = 0 := by
      intro e he
      have h1 := hp e (List.mem_of_mem_take he)
      have h2 := hm e (List.mem_of_mem_take he)
      rw [divI_share h1.1 h2 h1.2 h3, c]
      simp
    rw [List.map_congr_left hz, nought_sum]
    decide
  · have hpos : 0 < E.sum := by omega
    have h4 : ((E.take i).map fun e => divI e E.sum).sum * E.sum ≤ 65536 * E.sum := by omega
    exact Int.le_of_mul_le_mul_right h4 hpos
theorem soft_rd {x : List Int} {i : Int} (h0 : 0 ≤ i) (h1 : i < x.length) : rd (softI x) i = divI (expI (clampI (rd x i) - topI x)) (expsI (topI x) x).sum := by
  unfold softI
  rw [rd_map h0 (by rw [expsI_len]; exact h1)]
  congr 1
  unfold expsI
  rw [rd_map h0 h1]
theorem soft_part {x : List Int} {i : Int} (hb : x.length ≤ 1000) (h0 : 0 ≤ i) (h1 : i < x.length) : 0 ≤ rd (softI x) i ∧ rd (softI x) i ≤ 65536 := by
  rw [soft_rd h0 h1]
  have hp := expsI_parts (topI x) x
  have hs := sum_parts hp
  have hl := expsI_len (topI x) x
  have he := expI_range (clampI (rd x i) - topI x)
  have hm := mem_sum hp (expI (clampI (rd x i) - topI x)) (List.mem_map.2 ⟨_, rd_mem h0 h1, rfl⟩)
  exact share_range he.1 hm he.2 (by omega)
theorem soft_mono {x : List Int} {i j : Int} (hb : x.length ≤ 1000) (h0 : 0 ≤ i) (h1 : i < x.length) (g0 : 0 ≤ j) (g1 : j < x.length) (h : rd x i ≤ rd x j) : rd (softI x) i ≤ rd (softI x) j := by
  rw [soft_rd h0 h1, soft_rd g0 g1]
  have hp := expsI_parts (topI x) x
  have hs := sum_parts hp
  have hl := expsI_len (topI x) x
  have he := expI_range (clampI (rd x i) - topI x)
  have hf := expI_range (clampI (rd x j) - topI x)
  have hm := mem_sum hp (expI (clampI (rd x j) - topI x)) (List.mem_map.2 ⟨_, rd_mem g0 g1, rfl⟩)
  have hc := clampI_mono h
  exact share_mono he.1 (expI_mono (by omega)) hm hf.2 (by omega)
/-! sizes, with all signs turned -/
theorem rd_same {n : Nat} {c i : Int} (h0 : 0 ≤ i) (h1 : i < n) : rd (List.replicate n c) i = c := by
  unfold rd
  rw [List.getD_eq_getElem?_getD, List.getElem?_replicate, if_pos (by omega)]
  rfl
theorem sqr_nonneg (a : Int) : 0 ≤ a * a := by
  rcases Int.le_total 0 a with h | h
  · exact Int.mul_nonneg h h
  · exact Int.mul_nonneg_of_nonpos_of_nonpos h h
theorem dotA_ge : ∀ (s : Int) (a : List Int), 0 ≤ s → s ≤ 9223372036854775807 → s ≤ dotA s a a ∧ ∀ v ∈ a, clampI v * clampI v ≤ dotA s a a
  | s, [], h0, h1 => ⟨Int.le_refl _, by simp⟩
  | s, v :: as, h0, h1 => by
    have hv := sqr_nonneg (clampI v)
    have hp := clamp_prod v v
    have hs : s ≤ saddI s (clampI v * clampI v) ∧ clampI v * clampI v ≤ saddI s (clampI v * clampI v) := by unfold saddI; split <;> (try split) <;> omega
    obtain ⟨i1, i2⟩ := dotA_ge (saddI s (clampI v * clampI v)) as (by omega) (saddI_range _ _).2
    simp only [dotA]
    refine ⟨by omega, fun u hu => ?_⟩
    rcases List.mem_cons.1 hu with rfl | h
    · omega
    · exact i2 u h
theorem dotA_neg : ∀ (s : Int) (a : List Int), (∀ v ∈ a, -2147483647 ≤ v ∧ v ≤ 2147483647) → dotA s (a.map fun v => -v) (a.map fun v => -v) = dotA s a a
  | s, [], h => rfl
  | s, v :: as, h => by
    have hv := h v List.mem_cons_self
    simp only [List.map_cons, dotA]
    rw [clampI_neg hv.1 hv.2, Int.neg_mul_neg]
    exact dotA_neg _ as fun u hu => h u (List.mem_cons_of_mem _ hu)
theorem rms_small {n : Nat} {S v : Int} (hn : 0 < n) (hb : n ≤ 1000) (hS0 : v * v ≤ S) (hS1 : S ≤ 9223372036854775807) (hv0 : -2147483647 ≤ v) (hv1 : v ≤ 2147483647) : -1099511627776 ≤ v * rootN n S ∧ v * rootN n S ≤ 1099511627776 := by
  have hq := sqr_nonneg v
  have hS : 0 ≤ S := by omega
  unfold rootN
  rw [Int.tdiv_eq_ediv_of_nonneg hS]
  have hm0 : 0 ≤ S / (n : Int) := Int.ediv_nonneg hS (by omega)
  have hm1 : S < (S / (n : Int) + 1) * (n : Int) := Int.lt_ediv_add_one_mul_self S (by omega)
  have hm2 : S / (n : Int) ≤ S := Int.ediv_le_self _ hS
  generalize S / (n : Int) = m at *
  have hr := rdivI_near m 15
  simp only [show (2 : Int) ^ 15 = 32768 by decide, show (2 : Int) ^ (15 + 1) = 65536 by decide, show 15 + 1 = 16 by decide] at hr
  generalize rdivI m 16 = q at *
  have hq0 : 0 ≤ q := by omega
  have hc : 1 ≤ clampI (clampI (q + 1)) := by rw [clampI_idem]; unfold clampI; split <;> (try split) <;> omega
  have hroot := rsqrtI_root hc
  rw [clampI_idem] at hroot
  obtain ⟨r0, r1, -⟩ := hroot
  generalize rsqrtI (clampI (q + 1)) = r at *
  have hmul : 281474976710656 / clampI (q + 1) * clampI (q + 1) ≤ 281474976710656 := Int.ediv_mul_le _ (by rw [clampI_idem] at hc; omega)
  rw [clampI_idem] at hc
  by_cases c : q + 1 ≤ 2147483647
  · rw [clampI_id (x := q + 1) (by omega) c] at *
    have h1 : r * r * (q + 1) ≤ 281474976710656 := Int.le_trans (Int.mul_le_mul_of_nonneg_right r1 (by omega)) hmul
    have h2 : (m + 1) * (n : Int) ≤ (65536 * (q + 1)) * 1000 := Int.mul_le_mul (by omega) (by omega) (by omega) (by omega)
    have h3 : v * v ≤ 65536000 * (q + 1) := by omega
    have h4 : (v * v) * (r * r) ≤ (65536000 * (q + 1)) * (r * r) := Int.mul_le_mul_of_nonneg_right h3 (sqr_nonneg r)
    have h5 : (65536000 * (q + 1)) * (r * r) = 65536000 * (r * r * (q + 1)) := by rw [Int.mul_assoc, Int.mul_comm (q + 1)]
    have h6 : (v * r) * (v * r) = (v * v) * (r * r) := by rw [Int.mul_assoc, Int.mul_comm r, Int.mul_assoc, Int.mul_assoc]
    generalize v * r = y at *
    have h7 : y * y ≤ 18446744073709551616000 := by omega
    constructor
    · rcases Int.lt_or_le y (-1099511627776) with h | h
      · exfalso
        have := Int.mul_le_mul (show 1099511627776 ≤ -y by omega) (show 1099511627776 ≤ -y by omega) (by decide) (by omega)
        rw [Int.neg_mul_neg] at this
        omega
      · exact h
    · rcases Int.lt_or_le 1099511627776 y with h | h
      · exfalso
        have := Int.mul_le_mul (show 1099511627776 ≤ y by omega) (show 1099511627776 ≤ y by omega) (by decide) (by omega)
        omega
      · exact h
  · have hcl : clampI (q + 1) = 2147483647 := by unfold clampI; split <;> (try split) <;> omega
    rw [hcl] at r1
    have h1 : r * r ≤ 131072 := Int.le_trans r1 (by decide)
    have h2 : r ≤ 363 := by
      rcases Int.lt_or_le 363 r with h | h
      · exfalso
        have := Int.mul_le_mul (show 364 ≤ r by omega) (show 364 ≤ r by omega) (by decide) (by omega)
        omega
      · exact h
    have := prod_range (x := v) (y := r) (A := 2147483647) (B := 363) hv0 hv1 (by omega) h2
    omega
theorem rms_one {n : Nat} {S v : Int} (hn : 0 < n) (hb : n ≤ 1000) (hS0 : v * v ≤ S) (hS1 : S ≤ 9223372036854775807) (hv0 : -2147483647 ≤ v) (hv1 : v ≤ 2147483647) : clampI (rdivI (mulI v (rootN n S) * 64) 6) = rdivI (v * rootN n S) 16 := by
  have h := rms_small hn hb hS0 hS1 hv0 hv1
  have hr : -2147483648 ≤ rdivI (v * rootN n S) 16 ∧ rdivI (v * rootN n S) 16 ≤ 2147483648 - 1 := by
    have hn := rdivI_near (v * rootN n S) 15
    simp only [show (2 : Int) ^ 15 = 32768 by decide, show (2 : Int) ^ (15 + 1) = 65536 by decide, show 15 + 1 = 16 by decide] at hn
    have hm := rdivI_mono 16 h.2
    omega
  have hroot : -2147483648 ≤ rootN n S ∧ rootN n S ≤ 2147483647 := by have := rsqrtI_range (clampI (rdivI (Int.tdiv S n) 16 + 1)); unfold rootN; omega
  unfold mulI
  rw [clampI_id (x := v) (by omega) (by omega), clampI_id (x := rootN n S) hroot.1 hroot.2, clampI_id (x := rdivI (v * rootN n S) 16) (by omega) (by omega), show (64 : Int) = 2 ^ 6 by decide, rdivI_mul, clampI_id (by omega) (by omega)]
end Go.Proofs.Ytbnbhdlgehoaaaa.Mth
