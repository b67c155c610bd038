import Derived.Test.YtbnbhdlgehoaaaaMAttn
set_option linter.unusedVariables false
set_option linter.unusedSimpArgs false
namespace Go.Proofs.Ytbnbhdlgehoaaaa.Mth
open Go Go.RowKit Go.Proofs.YtbnbhdlgehoaaaaW.PrintWords Go.Proofs.YtbnbhdlgehoaaaaW.PrintLast
/-! all heads -/
/-- so many numbers of a row, from a place on -/
def sl (r : List Int) (a n : Nat) : List Int := (r.take (a + n)).drop a
theorem sl_len {r : List Int} {a n : Nat} (h : a + n ≤ r.length) : (sl r a n).length = n := by unfold sl; rw [List.length_drop, List.length_take]; omega
theorem sl_mem {r : List Int} {a n : Nat} {x : Int} (h : x ∈ sl r a n) : x ∈ r := List.mem_of_mem_take (List.mem_of_mem_drop h)
theorem sl_all {r : List Int} {a n : Nat} (h : All64 r) : All64 (sl r a n) := fun x hx => h x (sl_mem hx)
theorem sl_rd {r : List Int} {a n : Nat} {j : Int} (h0 : 0 ≤ j) (h1 : j < n) : rd (sl r a n) j = rd r ((a : Int) + j) := by
  unfold rd sl
  rw [List.getD_eq_getElem?_getD, List.getD_eq_getElem?_getD, List.getElem?_drop, List.getElem?_take, if_pos (by omega), show ((a : Int) + j).toNat = a + j.toNat by omega]
def sls (l : List (List Int)) (a n : Nat) : List (List Int) := l.map fun r => sl r a n
theorem sls_len (l : List (List Int)) (a n : Nat) : (sls l a n).length = l.length := by simp [sls]
theorem sls_mem {l : List (List Int)} {a n : Nat} {s : List Int} (h : s ∈ sls l a n) : ∃ r ∈ l, s = sl r a n := by
  obtain ⟨r, hr, rfl⟩ := List.mem_map.1 h
  exact ⟨r, hr, rfl⟩
theorem sls_fit {q : List Int} {K V : List (List Int)} {a n : Nat} (hf : Fit q K V) (hn : 0 < n) (h : a + n ≤ q.length) : Fit (sl q a n) (sls K a n) (sls V a n) := by
  obtain ⟨f1, f2, f3, f4, f5⟩ := hf
  have hq := sl_len h
  refine ⟨by omega, by rw [sls_len]; exact f2, by rw [sls_len, sls_len]; exact f3, fun r hr => ?_, fun r hr => ?_⟩
  · obtain ⟨s, hs, rfl⟩ := sls_mem hr
    rw [hq, sl_len (by rw [f4 s hs]; exact h)]
  · obtain ⟨s, hs, rfl⟩ := sls_mem hr
    rw [hq, sl_len (by rw [f5 s hs]; exact h)]
/-- the heads' answers, so many from a head on, one behind the other -/
def allFrom (n : Nat) (q : List Int) (K V : List (List Int)) : Nat → Nat → List Int
  | 0, _ => []
  | c + 1, m => headRow (sl q (m * n) n) (sls K (m * n) n) (sls V (m * n) n) ++ allFrom n q K V c (m + 1)
theorem allFrom_len {n : Nat} {q : List Int} {K V : List (List Int)} (hf : Fit q K V) (hn : 0 < n) : ∀ (c m : Nat), (m + c) * n ≤ q.length → (allFrom n q K V c m).length = c * n
  | 0, m, h => by simp [allFrom]
  | c + 1, m, h => by
    have e1 : (m + (c + 1)) * n = m * n + n + c * n := by rw [← Nat.succ_mul, ← Nat.add_mul]; congr 1; omega
    have e2 : (m + 1 + c) * n = m * n + n + c * n := by rw [← Nat.succ_mul, ← Nat.add_mul]
    have hl := headRow_len (sls_fit (a := m * n) hf hn (by omega))
    simp only [allFrom, List.length_append]
    rw [hl, sl_len (by omega), allFrom_len hf hn c (m + 1) (by omega), Nat.succ_mul]
    omega
def allI (q : List Int) (K V : List (List Int)) (h : Int) : List Int × Int :=
  if h < 1 then ([], 20) else if (q.length : Int) % h ≠ 0 ∨ ¬ Fit q K V then ([], 21) else (allFrom (q.length / h.toNat) q K V h.toNat 0, 0)
/-- a row of rows, its first ones written -/
def fillL (R : List (List Int)) (i : Int) : List (List Int) := R.take i.toNat ++ List.replicate (R.length - i.toNat) []
theorem fillL_zero (R : List (List Int)) : fillL R 0 = List.replicate R.length [] := by simp [fillL]
theorem fillL_len {R : List (List Int)} {i : Int} (h1 : i ≤ R.length) : (fillL R i).length = R.length := by simp [fillL]; omega
theorem fillL_end {R : List (List Int)} {i : Int} (h : (R.length : Int) ≤ i) : fillL R i = R := by
  unfold fillL
  rw [List.take_of_length_le (by omega), show R.length - i.toNat = 0 by omega]
  simp
theorem fillL_set {R : List (List Int)} {i : Int} (h0 : 0 ≤ i) (h1 : i < R.length) : (fillL R i).set i.toNat (rdL R i) = fillL R (i + 1) := by
  obtain ⟨n, rfl⟩ := Int.eq_ofNat_of_zero_le h0
  unfold fillL rdL
  have hl : (R.take n).length = n := by rw [List.length_take]; omega
  simp only [Int.toNat_natCast]
  rw [List.set_append_right _ _ (by omega), hl, Nat.sub_self, show R.length - n = (R.length - (n + 1)) + 1 by omega, List.replicate_succ, List.set_cons_zero]
  have e : ((n : Int) + 1).toNat = n + 1 := by omega
  rw [e, List.take_succ_eq_append_getElem (by omega : n < R.length), List.getD_eq_getElem?_getD, List.getElem?_eq_getElem (by omega : n < R.length), Option.getD_some, List.append_assoc]
  rfl
theorem rdL_map {l : List (List Int)} {f : List Int → List Int} {i : Int} (h0 : 0 ≤ i) (h1 : i < l.length) : rdL (l.map f) i = f (rdL l i) := by
  unfold rdL
  rw [List.getD_eq_getElem?_getD, List.getD_eq_getElem?_getD, List.getElem?_map, List.getElem?_eq_getElem (by omega : i.toNat < l.length)]
  rfl
theorem parts_arith {m c n L : Nat} (h : (m + (c + 1)) * n = L) : m * n + n ≤ L ∧ (m + 1) * n = m * n + n ∧ (m + 1 + c) * n = L := by
  have e1 : (m + (c + 1)) * n = m * n + n + c * n := by rw [← Nat.succ_mul, ← Nat.add_mul]; congr 1; omega
  refine ⟨by rw [← h, e1]; exact Nat.le_add_right _ _, Nat.succ_mul m n, ?_⟩
  rw [← h]; congr 1; omega
theorem wrapN_add {a b : Nat} (h : a + b ≤ 9223372036854775807) : wrap64 ((a : Int) + (b : Int)) = ((a + b : Nat) : Int) := by rw [wrap64_id (by omega) (by omega)]; omega
theorem sl_cut (q : List Int) (a n : Nat) : (q.take ((a + n : Nat) : Int).toNat).drop ((a : Nat) : Int).toNat = sl q a n := by unfold sl; rw [Int.toNat_natCast, Int.toNat_natCast]
theorem colS_end (a j : Int) (V : List (List Int)) : colS a j [] V = a := by cases V <;> rfl
/-! one row alone -/
theorem soft_one (x : Int) : softI [x] = [65536] := by
  have t : topI [x] = clampI x := rfl
  have e : expI 0 = 65536 := by decide +kernel
  have f : divI 65536 65536 = 65536 := by decide +kernel
  unfold softI expsI
  rw [t]
  simp only [List.map_cons, List.map_nil, Int.sub_self, e, List.sum_cons, List.sum_nil, Int.add_zero, f]
theorem out_one (b : Int) : outG (saddI 0 (65536 * clampI b)) = clampI b := by
  have hc := clampI_range b
  rw [saddI_id (by omega) (by omega), Int.zero_add]
  unfold outG
  rw [show 65536 * clampI b = clampI b * 2 ^ 16 by omega, rdivI_mul, clampI_idem]
theorem headRow_one {q k v : List Int} (hf : Fit q [k] [v]) : headRow q [k] [v] = v.map clampI := by
  have hv : v.length = q.length := hf.2.2.2.2 v (by simp)
  unfold headRow
  have e : scoresI q [k] = [mulI (innerI q k) (rsqrtI ((q.length : Int) * 65536))] := rfl
  rw [e, soft_one]
  simp only [accS, addS]
  refine List.ext_getElem (by simp [hv]) (fun i h1 h2 => ?_)
  simp only [List.getElem_map, List.getElem_zipWith, List.getElem_replicate]
  exact out_one _
theorem allFrom_one {n : Nat} {q k v : List Int} (hf : Fit q [k] [v]) (hn : 0 < n) : ∀ (c m : Nat), (m + c) * n ≤ q.length → allFrom n q [k] [v] c m = (sl v (m * n) (c * n)).map clampI
  | 0, m, h => by simp [allFrom, sl]
  | c + 1, m, h => by
    have hv : v.length = q.length := hf.2.2.2.2 v (by simp)
    have e1 : (m + (c + 1)) * n = m * n + n + c * n := by rw [← Nat.succ_mul, ← Nat.add_mul]; congr 1; omega
    have gA : m * n + n ≤ q.length := Nat.le_trans (by rw [e1]; exact Nat.le_add_right _ _) h
    have h1 := headRow_one (q := sl q (m * n) n) (k := sl k (m * n) n) (v := sl v (m * n) n) (sls_fit (K := [k]) (V := [v]) (a := m * n) hf hn gA)
    simp only [allFrom]
    change headRow (sl q (m * n) n) [sl k (m * n) n] [sl v (m * n) n] ++ _ = _
    rw [h1, allFrom_one hf hn c (m + 1) (by rw [show m + 1 + c = m + (c + 1) by omega]; exact h), ← List.map_append]
    congr 1
    unfold sl
    rw [Nat.succ_mul m n, Nat.succ_mul c n]
    have e2 : v.take (m * n + (c * n + n)) = v.take (m * n + n) ++ (v.take (m * n + n + c * n)).drop (m * n + n) := by
      rw [show m * n + (c * n + n) = m * n + n + c * n by omega]
      have h2 := List.take_append_drop (m * n + n) (v.take (m * n + n + c * n))
      rw [List.take_take, Nat.min_eq_left (Nat.le_add_right _ _)] at h2
      exact h2.symm
    rw [e2, List.drop_append_of_le_length (by rw [List.length_take]; omega)]
end Go.Proofs.Ytbnbhdlgehoaaaa.Mth
