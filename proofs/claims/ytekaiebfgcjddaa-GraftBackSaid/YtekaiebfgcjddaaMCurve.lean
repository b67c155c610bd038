import Derived.Test.YtekaiebfgcjddaaMSat
set_option linter.unusedVariables false
set_option linter.unusedSimpArgs false
namespace Go.Proofs.Ytekaiebfgcjddaa.Mth
open Go Go.RowKit Go.Proofs.YtekaiebfgcjddaaW.PrintWords Go.Proofs.YtekaiebfgcjddaaW.PrintLast
/-! roots -/
def IsRoot (M r : Int) : Prop := 0 ≤ r ∧ r * r ≤ M ∧ M < (r + 1) * (r + 1)
theorem sq_mono {a b : Int} (h0 : 0 ≤ a) (h : a ≤ b) : a * a ≤ b * b := Int.mul_le_mul h h h0 (by omega)
theorem IsRoot.uniq {M a b : Int} (ha : IsRoot M a) (hb : IsRoot M b) : a = b := by
  obtain ⟨a0, a1, a2⟩ := ha
  obtain ⟨b0, b1, b2⟩ := hb
  rcases Int.lt_trichotomy a b with h | h | h
  · have := sq_mono (a := a + 1) (b := b) (by omega) (by omega); omega
  · exact h
  · have := sq_mono (a := b + 1) (b := a) (by omega) (by omega); omega
theorem IsRoot.mono {M M' a b : Int} (ha : IsRoot M a) (hb : IsRoot M' b) (h : M ≤ M') : a ≤ b := by
  obtain ⟨a0, a1, a2⟩ := ha
  obtain ⟨b0, b1, b2⟩ := hb
  rcases Int.lt_or_le b a with h1 | h1
  · have := sq_mono (a := b + 1) (b := a) (by omega) (by omega); omega
  · exact h1
def bsI : Nat → Int → Int → Int → Int
  | 0, _, lo, _ => lo
  | n + 1, M, lo, hi => if hi - lo > 1 then (if (lo + hi) / 2 * ((lo + hi) / 2) ≤ M then bsI n M ((lo + hi) / 2) hi else bsI n M lo ((lo + hi) / 2)) else lo
theorem bsI_root : ∀ (n : Nat) (M lo hi : Int), 0 ≤ lo → lo < hi → hi - lo ≤ 2 ^ n → lo * lo ≤ M → M < hi * hi → IsRoot M (bsI n M lo hi)
  | 0, M, lo, hi, h0, h1, h2, h3, h4 => by
    have : hi = lo + 1 := by simp at h2; omega
    subst this
    exact ⟨h0, h3, h4⟩
  | n + 1, M, lo, hi, h0, h1, h2, h3, h4 => by
    have hP := pow2_succ n
    unfold bsI
    by_cases c : hi - lo > 1
    · rw [if_pos c]
      by_cases d : (lo + hi) / 2 * ((lo + hi) / 2) ≤ M
      · rw [if_pos d]
        exact bsI_root n M _ hi (by omega) (by omega) (by omega) d h4
      · rw [if_neg d]
        exact bsI_root n M lo _ h0 (by omega) (by omega) h3 (by omega)
    · rw [if_neg c]
      have : hi = lo + 1 := by omega
      subst this
      exact ⟨h0, h3, h4⟩
def rootI (M : Int) : Int := bsI 25 M 0 16777217
theorem rootI_root {M : Int} (h0 : 0 ≤ M) (h1 : M ≤ 281474976710656) : IsRoot M (rootI M) := bsI_root 25 M 0 16777217 (by decide) (by decide) (by decide) (by omega) (by omega)
def rsqrtI (x : Int) : Int := if clampI x < 1 then 2147483647 else rootI (281474976710656 / clampI x)
theorem quo_range {x : Int} (h : 1 ≤ x) : 0 ≤ 281474976710656 / x ∧ 281474976710656 / x ≤ 281474976710656 := ⟨Int.ediv_nonneg (by decide) (by omega), Int.ediv_le_self x (by decide)⟩
theorem rsqrtI_root {x : Int} (h : 1 ≤ clampI x) : IsRoot (281474976710656 / clampI x) (rsqrtI x) := by
  have hq := quo_range h
  unfold rsqrtI
  rw [if_neg (by omega)]
  exact rootI_root hq.1 hq.2
theorem IsRoot.le {M r B : Int} (h : IsRoot M r) (hB : 0 ≤ B) (hM : M ≤ B * B) : r ≤ B := by
  obtain ⟨h0, h1, h2⟩ := h
  rcases Int.lt_or_le B r with h3 | h3
  · have := sq_mono (a := B + 1) (b := r) (by omega) (by omega)
    have e : (B + 1) * (B + 1) = B * B + 2 * B + 1 := by rw [Int.add_mul, Int.mul_add]; omega
    omega
  · exact h3
theorem rsqrtI_range (x : Int) : 0 ≤ rsqrtI x ∧ rsqrtI x ≤ 2147483647 := by
  by_cases c : clampI x < 1
  · unfold rsqrtI; rw [if_pos c]; omega
  · have h := rsqrtI_root (x := x) (by omega)
    have hq := quo_range (x := clampI x) (by omega)
    exact ⟨h.1, Int.le_trans (h.le (B := 16777216) (by decide) (by omega)) (by decide)⟩
theorem rsqrtI_le {x : Int} (h : 1 ≤ clampI x) : rsqrtI x ≤ 16777216 := by
  have hr := rsqrtI_root (x := x) h
  have hq := quo_range h
  exact hr.le (B := 16777216) (by decide) (by omega)
theorem rsqrtI_anti {x y : Int} (h : x ≤ y) : rsqrtI y ≤ rsqrtI x := by
  have hc := clampI_mono h
  by_cases c : clampI x < 1
  · have := rsqrtI_range y
    have e : rsqrtI x = 2147483647 := by unfold rsqrtI; rw [if_pos c]
    omega
  · have hx := rsqrtI_root (x := x) (by omega)
    have hy := rsqrtI_root (x := y) (by omega)
    refine hy.mono hx ?_
    have h1 : (281474976710656 / clampI y) * clampI x ≤ 281474976710656 := by
      have h2 := Int.ediv_mul_le 281474976710656 (show clampI y ≠ 0 by omega)
      have h3 := Int.mul_le_mul_of_nonneg_left hc (quo_range (x := clampI y) (by omega)).1
      omega
    exact Int.le_ediv_of_mul_le (by omega) h1
/-! powers of e -/
def powT : List Int := [65536, 62757, 60097, 57549, 55109, 52773, 50535, 48393, 46341, 44376, 42495, 40693, 38968, 37316, 35734, 34219, 32768]
def powv (f : Int) : Int := rd powT (f / 4096) - (rd powT (f / 4096) - rd powT (f / 4096 + 1)) * (f % 4096) / 4096
def expTI (t : Int) : Int := if t / 65536 > 16 then 0 else powv (t % 65536) / 2 ^ (t / 65536).toNat
def exptI (x : Int) : Int := -(mulI (if 0 < x then 0 else x) 94548)
def expI (x : Int) : Int := expTI (exptI x)
theorem exptI_range (x : Int) : 0 ≤ exptI x ∧ exptI x ≤ 2147483648 := by
  unfold exptI
  have h0 : (if 0 < x then 0 else x) ≤ 0 := by split <;> omega
  have h1 : mulI (if 0 < x then 0 else x) 94548 ≤ 0 := by
    unfold mulI
    have hc : clampI (if 0 < x then 0 else x) ≤ 0 := by unfold clampI; (repeat' split) <;> omega
    have hp : clampI (if 0 < x then 0 else x) * clampI 94548 ≤ 0 := by
      have e : clampI 94548 = 94548 := by decide
      rw [e]; omega
    have := rdivI_mono 16 hp
    rw [rdivI_zero] at this
    have := clampI_mono this
    have e : clampI 0 = 0 := by decide
    omega
  have := mulI_range (if 0 < x then 0 else x) 94548
  omega
theorem exptI_anti {x y : Int} (h : x ≤ y) : exptI y ≤ exptI x := by
  unfold exptI
  have h0 : (if 0 < x then 0 else x) ≤ (if 0 < y then 0 else y) := by (repeat' split) <;> omega
  have : mulI (if 0 < x then 0 else x) 94548 ≤ mulI (if 0 < y then 0 else y) 94548 := by
    unfold mulI
    refine clampI_mono (rdivI_mono 16 ?_)
    have e : clampI 94548 = 94548 := by decide
    rw [e]
    have := clampI_mono h0
    omega
  omega
theorem pow_step : ∀ i : Fin 16, rd powT ((i : Nat) + 1 : Int) ≤ rd powT (i : Nat) ∧ rd powT (i : Nat) ≤ rd powT ((i : Nat) + 1 : Int) + 2779 ∧ 32768 ≤ rd powT ((i : Nat) + 1 : Int) ∧ rd powT (i : Nat) ≤ 65536 := by decide +kernel
theorem pow_anti : ∀ i j : Fin 17, (i : Nat) ≤ (j : Nat) → rd powT (j : Nat) ≤ rd powT (i : Nat) := by decide +kernel
theorem pow_at {f : Int} (h0 : 0 ≤ f) (h1 : f < 65536) : rd powT (f / 4096 + 1) ≤ rd powT (f / 4096) ∧ rd powT (f / 4096) ≤ rd powT (f / 4096 + 1) + 2779 ∧ 32768 ≤ rd powT (f / 4096 + 1) ∧ rd powT (f / 4096) ≤ 65536 := by
  have h := pow_step ⟨(f / 4096).toNat, by omega⟩
  have e : (((f / 4096).toNat : Nat) : Int) = f / 4096 := Int.toNat_of_nonneg (by omega)
  simp only [e] at h
  exact h
theorem powv_range {f : Int} (h0 : 0 ≤ f) (h1 : f < 65536) : rd powT (f / 4096 + 1) ≤ powv f ∧ powv f ≤ rd powT (f / 4096) := by
  have h := pow_at h0 h1
  unfold powv
  generalize rd powT (f / 4096) = a at *
  generalize rd powT (f / 4096 + 1) = b at *
  have hg : 0 ≤ f % 4096 ∧ f % 4096 ≤ 4096 := by omega
  have h2 : 0 ≤ (a - b) * (f % 4096) := Int.mul_nonneg (by omega) hg.1
  have h3 : (a - b) * (f % 4096) ≤ (a - b) * 4096 := Int.mul_le_mul_of_nonneg_left hg.2 (by omega)
  omega
theorem powv_bound {f : Int} (h0 : 0 ≤ f) (h1 : f < 65536) : 32768 ≤ powv f ∧ powv f ≤ 65536 := by
  have h := pow_at h0 h1
  have h2 := powv_range h0 h1
  omega
theorem powv_anti {f f' : Int} (h0 : 0 ≤ f) (h : f ≤ f') (h1 : f' < 65536) : powv f' ≤ powv f := by
  by_cases c : f / 4096 = f' / 4096
  · have h2 := pow_at h0 (show f < 65536 by omega)
    unfold powv
    rw [← c]
    generalize rd powT (f / 4096) = a at *
    generalize rd powT (f / 4096 + 1) = b at *
    have h3 : (a - b) * (f % 4096) ≤ (a - b) * (f' % 4096) := Int.mul_le_mul_of_nonneg_left (by omega) (by omega)
    have := Int.ediv_le_ediv (c := 4096) (by decide) h3
    omega
  · have h2 := powv_range h0 (show f < 65536 by omega)
    have h3 := powv_range (show 0 ≤ f' by omega) h1
    have h4 := pow_anti ⟨(f / 4096 + 1).toNat, by omega⟩ ⟨(f' / 4096).toNat, by omega⟩ (by simp; omega)
    have e1 : (((f / 4096 + 1).toNat : Nat) : Int) = f / 4096 + 1 := Int.toNat_of_nonneg (by omega)
    have e2 : (((f' / 4096).toNat : Nat) : Int) = f' / 4096 := Int.toNat_of_nonneg (by omega)
    simp only [e1, e2] at h4
    omega
theorem expTI_range {t : Int} (h : 0 ≤ t) : 0 ≤ expTI t ∧ expTI t ≤ 65536 := by
  unfold expTI
  by_cases c : t / 65536 > 16
  · rw [if_pos c]; omega
  · rw [if_neg c]
    have hb := powv_bound (f := t % 65536) (by omega) (by omega)
    have hp := pow2_pos (t / 65536).toNat
    refine ⟨Int.ediv_nonneg (by omega) (by omega), Int.le_trans (Int.ediv_le_self _ (by omega)) hb.2⟩
theorem expTI_anti {t t' : Int} (h0 : 0 ≤ t) (h : t ≤ t') : expTI t' ≤ expTI t := by
  by_cases c' : t' / 65536 > 16
  · have e : expTI t' = 0 := by unfold expTI; rw [if_pos c']
    rw [e]
    exact (expTI_range h0).1
  · have c : ¬ t / 65536 > 16 := by omega
    unfold expTI
    rw [if_neg c', if_neg c]
    have hb := powv_bound (f := t % 65536) (by omega) (by omega)
    have hb' := powv_bound (f := t' % 65536) (by omega) (by omega)
    by_cases d : t / 65536 = t' / 65536
    · rw [← d]
      exact Int.ediv_le_ediv (pow2_pos _) (powv_anti (by omega) (by omega) (by omega))
    · obtain ⟨m, hm⟩ : ∃ m : Nat, (t' / 65536).toNat = (t / 65536).toNat + m + 1 := ⟨(t' / 65536).toNat - (t / 65536).toNat - 1, by omega⟩
      rw [hm]
      have e : (2 : Int) ^ ((t / 65536).toNat + m + 1) = 2 * (2 ^ (t / 65536).toNat * 2 ^ m) := by rw [pow2_succ, Int.pow_add]
      have hp := pow2_pos (t / 65536).toNat
      have hpm := pow2_pos m
      generalize (2 : Int) ^ (t / 65536).toNat = D at *
      generalize (2 : Int) ^ m = E at *
      have hDE : D * 1 ≤ D * E := Int.mul_le_mul_of_nonneg_left (by omega) (by omega)
      rw [e]
      have h1 : powv (t' % 65536) / (2 * (D * E)) ≤ 32768 / D := by
        refine Int.le_ediv_of_mul_le hp ?_
        have h2 := Int.ediv_mul_le (powv (t' % 65536)) (show 2 * (D * E) ≠ 0 by omega)
        have h3 : 0 ≤ powv (t' % 65536) / (2 * (D * E)) := Int.ediv_nonneg (by omega) (by omega)
        have h4 := Int.mul_le_mul_of_nonneg_left (show D * 2 ≤ 2 * (D * E) by omega) h3
        have h5 : powv (t' % 65536) / (2 * (D * E)) * (D * 2) = 2 * (powv (t' % 65536) / (2 * (D * E)) * D) := by
          rw [← Int.mul_assoc]; omega
        omega
      have h2 : 32768 / D ≤ powv (t % 65536) / D := Int.ediv_le_ediv hp hb.1
      omega
theorem expI_range (x : Int) : 0 ≤ expI x ∧ expI x ≤ 65536 := expTI_range (exptI_range x).1
theorem expI_mono {x y : Int} (h : x ≤ y) : expI x ≤ expI y := expTI_anti (exptI_range y).1 (exptI_anti h)
/-! the curves -/
def sigPI (c : Int) : Int := divI 65536 (65536 + expI (-c))
def sigI (x : Int) : Int := if clampI x < 0 then 65536 - sigPI (clampI (-(clampI x))) else sigPI (clampI x)
def siluI (x : Int) : Int := mulI x (sigI x)
theorem sigPI_eq (c : Int) : sigPI c = 4294967296 / (65536 + expI (-c)) ∧ 32768 ≤ sigPI c ∧ sigPI c ≤ 65536 := by
  have h := expI_range (-c)
  unfold sigPI divI
  generalize expI (-c) = e at *
  have e1 : clampI (65536 + e) = 65536 + e := clampI_id (by omega) (by omega)
  have e2 : clampI 65536 = 65536 := by decide
  rw [e1, e2, if_neg (by omega), Int.tdiv_eq_ediv_of_nonneg (by decide)]
  have h1 : 32768 ≤ 65536 * 65536 / (65536 + e) := Int.le_ediv_of_mul_le (by omega) (by omega)
  have h2 : 65536 * 65536 / (65536 + e) < 65537 := Int.ediv_lt_of_lt_mul (by omega) (by omega)
  rw [clampI_id (by omega) (by omega)]
  exact ⟨rfl, h1, by omega⟩
theorem sigI_range (x : Int) : 0 ≤ sigI x ∧ sigI x ≤ 65536 := by
  unfold sigI
  split
  · have := sigPI_eq (clampI (-(clampI x))); omega
  · have := sigPI_eq (clampI x); omega
/-! turns -/
def cosT : List Int := [65536, 60547, 46341, 25080, 0, -25080, -46341, -60547, -65536, -60547, -46341, -25080, 0, 25080, 46341, 60547]
def sinT : List Int := [0, 25080, 46341, 60547, 65536, 60547, 46341, 25080, 0, -25080, -46341, -60547, -65536, -60547, -46341, -25080]
def cosI (n : Int) : Int := rd cosT (n % 16)
def sinI (n : Int) : Int := rd sinT (n % 16)
theorem cos_step : ∀ i : Fin 16, -65536 ≤ rd cosT (i : Nat) ∧ rd cosT (i : Nat) ≤ 65536 ∧ -65536 ≤ rd sinT (i : Nat) ∧ rd sinT (i : Nat) ≤ 65536 := by decide +kernel
theorem trig_range (n : Int) : -65536 ≤ cosI n ∧ cosI n ≤ 65536 ∧ -65536 ≤ sinI n ∧ sinI n ≤ 65536 := by
  have h := cos_step ⟨(n % 16).toNat, by omega⟩
  have e : (((n % 16).toNat : Nat) : Int) = n % 16 := Int.toNat_of_nonneg (by omega)
  simp only [e] at h
  exact h
theorem bits15 (n : Int) : Go.bits .and .i64 n 15 = n % 16 := bits_mask64 n 4 (by decide)
end Go.Proofs.Ytekaiebfgcjddaa.Mth
