/- Any weights are shaped by the program as by the reference, or refused alike. No condition. -/
import Derived.Test.YtekaiebfgcjddaaPGraftShapesx8
import Derived.Test.YtekaiebfgcjddaaMSat
import Derived.Test.YtekaiebfgcjddaaMVec
import Derived.Test.YtekaiebfgcjddaaMBytes
set_option linter.unusedVariables false
set_option linter.unusedSimpArgs false
namespace Go.Proofs.Ytekaiebfgcjddaa.Pure
open Go Go.RowKit Go.Proofs.Ytekaiebfgcjddaa.PGraftShapes Go.Proofs.YtekaiebfgcjddaaW.PrintWords Go.Proofs.YtekaiebfgcjddaaW.PrintLast Go.Proofs.Ytekaiebfgcjddaa.Mth
def wB (n l h : Int) : Bool := decide (l ≤ n) && decide (n ≤ h)
def restB (a2 a3 a4 a7 : Int) : Bool := wB a2 1 2 && (wB a3 2 16 && (wB a4 1 8 && wB a7 0 16))
def mixB (a5 a6 : Int) : Bool := (decide (a5 = 0) && decide (a6 = 0)) || (wB a5 2 4 && wB a6 1 a5)
def headB (a0 a1 : Int) : Bool := wB a0 2 8 && (wB a1 1 a0 && (decide (Int.tdiv a0 a1 * a1 = a0) && decide (Int.tmod (Int.tdiv a0 a1) 2 = 0)))
def cfgB (a0 a1 a2 a3 a4 a5 a6 a7 : Int) : Bool := headB a0 a1 && (mixB a5 a6 && restB a2 a3 a4 a7)
theorem within_eq (n l h : Int) : ckpt_within.f n l h = some (wB n l h) := by
  unfold ckpt_within.f wB
  by_cases hh : l ≤ n
  · rw [if_pos hh]; simp [hh]
  · rw [if_neg hh]; simp [hh]
theorem j2_eq (k : Nat) (x : Bool) (a0 a1 a2 a3 a4 a5 a6 a7 : Int) : ckpt_Config.j2 (k + 1) x a0 a1 a2 a3 a4 a5 a6 a7 = some (x && restB a2 a3 a4 a7) := by
  simp only [ckpt_Config.j2, within_eq, Option.bind_some, restB]
  cases x <;> cases wB a2 1 2 <;> cases wB a3 2 16 <;> cases wB a4 1 8 <;> cases wB a7 0 16 <;> rfl
theorem j1_eq (k : Nat) (x : Bool) (a0 a1 a2 a3 a4 a5 a6 a7 : Int) : ckpt_Config.j1 (k + 2) x a0 a1 a2 a3 a4 a5 a6 a7 = some (!x && (mixB a5 a6 && restB a2 a3 a4 a7)) := by
  simp only [ckpt_Config.j1, within_eq, Option.bind_some, j2_eq, mixB]
  by_cases h5 : a5 = 0
  · by_cases h6 : a6 = 0
    · cases x <;> simp [h5, h6]
    · cases x <;> cases wB a5 2 4 <;> cases wB a6 1 a5 <;> cases restB a2 a3 a4 a7 <;> simp [h6]
  · cases x <;> cases wB a5 2 4 <;> cases wB a6 1 a5 <;> cases restB a2 a3 a4 a7 <;> simp [h5]
theorem fin_ (a0 a1 : Int) (h1 : 2 ≤ a0) (h2 : a0 ≤ 8) (h3 : 1 ≤ a1) (h4 : a1 ≤ a0) : wrap64 (Int.tdiv a0 a1) = Int.tdiv a0 a1 ∧ wrap64 (Int.tdiv a0 a1 * a1) = Int.tdiv a0 a1 * a1 ∧
    (decide (Int.tdiv a0 a1 * a1 = a0) && decide (Int.tmod (Int.tdiv a0 a1) 2 = 0)) = (decide (Int.tmod a0 2 = 0) && (wB a1 1 4 && (decide (Int.tmod a0 a1 = 0) && decide (Int.tmod (Int.tdiv a0 a1) 2 = 0)))) := by
  obtain rfl | rfl | rfl | rfl | rfl | rfl | rfl : a0 = 2 ∨ a0 = 3 ∨ a0 = 4 ∨ a0 = 5 ∨ a0 = 6 ∨ a0 = 7 ∨ a0 = 8 := by omega
  all_goals
    obtain rfl | rfl | rfl | rfl | rfl | rfl | rfl | rfl : a1 = 1 ∨ a1 = 2 ∨ a1 = 3 ∨ a1 = 4 ∨ a1 = 5 ∨ a1 = 6 ∨ a1 = 7 ∨ a1 = 8 := by omega
    all_goals first | (exfalso; omega) | (decide +kernel)
theorem Config_eq (k : Nat) (a0 a1 a2 a3 a4 a5 a6 a7 : Int) : ckpt_Config.f (k + 3) a0 a1 a2 a3 a4 a5 a6 a7 = some (cfgB a0 a1 a2 a3 a4 a5 a6 a7) := by
  simp only [ckpt_Config.f, within_eq, Option.bind_some, ckpt_Config.j0, j1_eq]
  unfold cfgB headB
  cases e0 : wB a0 2 8 with
  | false => simp
  | true =>
    cases e1 : wB a1 1 a0 with
    | false => simp
    | true =>
      have b0 := e0
      have b1 := e1
      simp only [wB, Bool.and_eq_true, decide_eq_true_eq] at b0 b1
      obtain ⟨f1, f2, _⟩ := fin_ a0 a1 b0.1 b0.2 b1.1 b1.2
      rw [f1, f2]
      have hne : a1 ≠ 0 := by omega
      by_cases c : Int.tdiv a0 a1 * a1 = a0
      · by_cases c2 : Int.tmod (Int.tdiv a0 a1) 2 = 0 <;> simp [c, c2, hne]
      · simp [c, hne]
theorem in_eq (n l h : Int) : aviaryref09_in.f n l h = some (wB n l h) := by
  unfold aviaryref09_in.f wB
  by_cases hh : l ≤ n
  · rw [if_pos hh]; simp [hh]
  · rw [if_neg hh]; simp [hh]
theorem rj1_eq (k : Nat) (x : Bool) (a0 a1 a2 a3 a4 a5 a6 a7 : Int) : aviaryref09_Config.j1 (k + 1) x a0 a1 a2 a3 a4 a5 a6 a7 = some (x && restB a2 a3 a4 a7) := by
  simp only [aviaryref09_Config.j1, in_eq, Option.bind_some, restB]
  cases x <;> cases wB a2 1 2 <;> cases wB a3 2 16 <;> cases wB a4 1 8 <;> cases wB a7 0 16 <;> rfl
theorem rj0_eq (k : Nat) (x : Bool) (a0 a1 a2 a3 a4 a5 a6 a7 : Int) : aviaryref09_Config.j0 (k + 2) x a0 a1 a2 a3 a4 a5 a6 a7 = some (!x && (mixB a5 a6 && restB a2 a3 a4 a7)) := by
  simp only [aviaryref09_Config.j0, in_eq, Option.bind_some, rj1_eq, mixB]
  by_cases h5 : a5 = 0
  · by_cases h6 : a6 = 0
    · cases x <;> simp [h5, h6]
    · cases x <;> cases wB a5 2 4 <;> cases wB a6 1 a5 <;> cases restB a2 a3 a4 a7 <;> simp [h6]
  · cases x <;> cases wB a5 2 4 <;> cases wB a6 1 a5 <;> cases restB a2 a3 a4 a7 <;> simp [h5]
theorem rConfig_eq (k : Nat) (a0 a1 a2 a3 a4 a5 a6 a7 : Int) : aviaryref09_Config.f (k + 3) a0 a1 a2 a3 a4 a5 a6 a7 = some (cfgB a0 a1 a2 a3 a4 a5 a6 a7) := by
  simp only [aviaryref09_Config.f, in_eq, Option.bind_some, rj0_eq]
  unfold cfgB headB
  cases e0 : wB a0 2 8 with
  | false => simp
  | true =>
    have b0 := e0
    simp only [wB, Bool.and_eq_true, decide_eq_true_eq] at b0
    cases e4 : wB a1 1 4 with
    | false =>
      cases e1 : wB a1 1 a0 with
      | false => by_cases c : Int.tmod a0 2 = 0 <;> simp [c]
      | true =>
        have b1 := e1
        simp only [wB, Bool.and_eq_true, decide_eq_true_eq] at b1
        obtain ⟨_, _, f3⟩ := fin_ a0 a1 b0.1 b0.2 b1.1 b1.2
        rw [f3, e4]
        by_cases c : Int.tmod a0 2 = 0 <;> simp [c]
    | true =>
      have b4 := e4
      simp only [wB, Bool.and_eq_true, decide_eq_true_eq] at b4
      have hne : a1 ≠ 0 := by omega
      cases e1 : wB a1 1 a0 with
      | false =>
        have g : a0 < a1 := by
          simp only [wB, Bool.and_eq_false_iff, decide_eq_false_iff_not] at e1
          omega
        have g2 : Int.tmod a0 a1 ≠ 0 := by
          rw [Int.tmod_eq_of_lt (by omega) g]
          omega
        by_cases c : Int.tmod a0 2 = 0 <;> simp [c, g2, hne]
      | true =>
        have b1 := e1
        simp only [wB, Bool.and_eq_true, decide_eq_true_eq] at b1
        obtain ⟨f1, _, f3⟩ := fin_ a0 a1 b0.1 b0.2 b1.1 b1.2
        rw [f3, f1, e4]
        by_cases c : Int.tmod a0 2 = 0
        · by_cases c2 : Int.tmod a0 a1 = 0
          · by_cases c3 : Int.tmod (Int.tdiv a0 a1) 2 = 0 <;> simp [c, c2, c3, hne]
          · simp [c, c2, hne]
        · simp [c]
theorem cfg_bounds {a0 a1 a2 a3 a4 a5 a6 a7 : Int} (h : cfgB a0 a1 a2 a3 a4 a5 a6 a7 = true) : (2 ≤ a0 ∧ a0 ≤ 8) ∧ (1 ≤ a1 ∧ a1 ≤ 8) ∧ (1 ≤ a2 ∧ a2 ≤ 2) ∧ (2 ≤ a3 ∧ a3 ≤ 16) ∧ (1 ≤ a4 ∧ a4 ≤ 8) ∧ (0 ≤ a5 ∧ a5 ≤ 4) ∧ (0 ≤ a6 ∧ a6 ≤ 4) ∧ (0 ≤ a7 ∧ a7 ≤ 16) := by
  simp only [cfgB, headB, mixB, restB, wB, Bool.and_eq_true, Bool.or_eq_true, decide_eq_true_eq] at h
  omega
theorem bSame_l0 {a b : List Int} (hl : a.length = b.length) (hb : a.length ≤ 4611686018427387904) (d : Nat) : ∀ (k : Nat) (i : Int), 0 ≤ i → (a.length : Int) - i = d → d < k →
    aviaryref08_Same.l0 k a b i = some (decide (a.drop i.toNat = b.drop i.toNat)) := by
  induction d with
  | zero =>
    intro k i h0 hd hk
    obtain ⟨k, rfl⟩ : ∃ m, k = m + 1 := ⟨k - 1, by omega⟩
    simp only [aviaryref08_Same.l0]
    rw [if_neg (by omega), drop_len (by omega), drop_len (by omega)]
    simp
  | succ d ih =>
    intro k i h0 hd hk
    obtain ⟨k, rfl⟩ : ∃ m, k = m + 1 := ⟨k - 1, by omega⟩
    simp only [aviaryref08_Same.l0]
    rw [if_pos (by omega), if_pos h0, if_pos (by omega), drop_rd (l := a) h0 (by omega), drop_rd (l := b) h0 (by omega)]
    by_cases c : rd a i = rd b i
    · rw [if_pos c, wrap64_id (x := i + 1) (by omega) (by omega), ih k (i + 1) (by omega) (by omega) (by omega), c]
      simp
    · rw [if_neg c]
      simp [c]
theorem bSame_eq {k : Nat} {a b : List Int} (hb : a.length ≤ 4611686018427387904) (hk : a.length < k) : aviaryref08_Same.f k a b = some (decide (a = b)) := by
  unfold aviaryref08_Same.f
  by_cases c : a.length = b.length
  · rw [if_pos (by omega), bSame_l0 c hb a.length k 0 (by omega) (by omega) hk]
    rfl
  · rw [if_neg (by omega)]
    have : a ≠ b := fun h => c (by rw [h])
    simp [this]
def rightB (a0 a1 b0 b1 b2 b3 b4 b5 b6 b7 : Int) : Bool := cfgB b0 b1 b2 b3 b4 b5 b6 b7 && (wB a0 1 4 && wB a1 0 8)
theorem right_eq (k : Nat) (a0 a1 b0 b1 b2 b3 b4 b5 b6 b7 : Int) : graft_right.f (k + 3) a0 a1 b0 b1 b2 b3 b4 b5 b6 b7 = some (rightB a0 a1 b0 b1 b2 b3 b4 b5 b6 b7) := by
  simp only [graft_right.f, Config_eq, Option.bind_some, rightB]
  cases cfgB b0 b1 b2 b3 b4 b5 b6 b7
  · simp
  · simp only [wB, if_true, Bool.true_and]
    by_cases h1 : 1 ≤ a0
    · by_cases h2 : a0 ≤ 4
      · by_cases h3 : 0 ≤ a1
        · simp [h1, h2, h3]
        · simp [h1, h2, h3]
      · simp [h1, h2]
    · simp [h1]
theorem right_bounds {a0 a1 b0 b1 b2 b3 b4 b5 b6 b7 : Int} (h : rightB a0 a1 b0 b1 b2 b3 b4 b5 b6 b7 = true) : (1 ≤ a0 ∧ a0 ≤ 4) ∧ (0 ≤ a1 ∧ a1 ≤ 8) ∧ (2 ≤ b0 ∧ b0 ≤ 8) ∧ (1 ≤ b2 ∧ b2 ≤ 2) ∧ 2 ≤ a0 * b0 ∧ a0 * b0 ≤ 32 := by
  simp only [rightB, Bool.and_eq_true] at h
  have hc := cfg_bounds h.1
  have hw := h.2
  simp only [wB, Bool.and_eq_true, decide_eq_true_eq] at hw
  refine ⟨hw.1, hw.2, hc.1, hc.2.2.1, ?_⟩
  obtain ⟨⟨h1, h2⟩, _⟩ := hw
  obtain ⟨⟨h3, h4⟩, _⟩ := hc
  obtain rfl | rfl | rfl | rfl : a0 = 1 ∨ a0 = 2 ∨ a0 = 3 ∨ a0 = 4 := by omega
  all_goals omega
theorem ranges_eq (k : Nat) (a0 a1 b0 b1 b2 b3 b4 b5 b6 b7 : Int) : aviaryref10_ranges.f (k + 3) a0 a1 b0 b1 b2 b3 b4 b5 b6 b7 = some (rightB a0 a1 b0 b1 b2 b3 b4 b5 b6 b7) := by
  rw [← right_eq k]
  simp only [graft_right.f, aviaryref10_ranges.f, Config_eq, rConfig_eq, Option.bind_some]
/-- What Shape answers. -/
def shapeR (a0 a1 b0 b2 : Int) (right : Bool) (l : List Int) : Int × Int × List S59 × Int :=
  if right = true then (if (l.length : Int) = b2 * 4 * (a0 * b0) then (a0, a1, shape59 b2.toNat (a0 * b0).toNat l, 0) else (0, 0, [], 21)) else (0, 0, [], 20)
theorem size_wrap {a0 b0 b2 : Int} (h1 : 1 ≤ b2 ∧ b2 ≤ 2) (h2 : 2 ≤ a0 * b0 ∧ a0 * b0 ≤ 32) : wrap64 (wrap64 (b2 * 4) * wrap64 (a0 * b0)) = b2 * 4 * (a0 * b0) := by
  rw [show wrap64 (b2 * 4) = b2 * 4 by unfold wrap64; omega, show wrap64 (a0 * b0) = a0 * b0 by unfold wrap64; omega]
  obtain rfl | rfl : b2 = 1 ∨ b2 = 2 := by omega
  all_goals unfold wrap64; omega
theorem Shape_eq (k : Nat) (a0 a1 b0 b1 b2 b3 b4 b5 b6 b7 : Int) (l : List Int) : graft_Shape.f (k + 3) a0 a1 b0 b1 b2 b3 b4 b5 b6 b7 l = some (shapeR a0 a1 b0 b2 (rightB a0 a1 b0 b1 b2 b3 b4 b5 b6 b7) l) := by
  simp only [graft_Shape.f, right_eq, Option.bind_some, shapeR]
  cases e : rightB a0 a1 b0 b1 b2 b3 b4 b5 b6 b7
  · simp
  · obtain ⟨_, _, _, h4, h5⟩ := right_bounds e
    rw [size_wrap h4 h5]
    simp only [if_true]
    by_cases hl : (l.length : Int) = b2 * 4 * (a0 * b0)
    · rw [if_pos hl, if_pos hl, if_pos (by omega)]
    · rw [if_neg hl, if_neg hl]
theorem rShape_eq (k : Nat) (a0 a1 b0 b1 b2 b3 b4 b5 b6 b7 : Int) (l : List Int) : aviaryref10_Shape.f (k + 3) a0 a1 b0 b1 b2 b3 b4 b5 b6 b7 l = some (shapeR a0 a1 b0 b2 (rightB a0 a1 b0 b1 b2 b3 b4 b5 b6 b7) l) := by
  rw [← Shape_eq k]
  simp only [graft_Shape.f, aviaryref10_Shape.f, right_eq, ranges_eq, Option.bind_some]
theorem gSame_l0 {l : List S59} (hb : l.length ≤ 4611686018427387904) {K : Nat} (hK : ∀ g ∈ l, (g.f0.length ≤ 4611686018427387904 ∧ g.f1.length ≤ 4611686018427387904 ∧ g.f2.length ≤ 4611686018427387904 ∧ g.f3.length ≤ 4611686018427387904) ∧ (g.f0.length < K ∧ g.f1.length < K ∧ g.f2.length < K ∧ g.f3.length < K)) (x0 x1 y0 y1 : Int) (d : Nat) : ∀ (k : Nat) (i : Int), 0 ≤ i → (l.length : Int) - i = d → d + K < k →
    aviaryref10_Same.l0 k i x0 x1 l y0 y1 l = some true := by
  induction d with
  | zero =>
    intro k i h0 hd hk
    obtain ⟨k, rfl⟩ : ∃ m, k = m + 1 := ⟨k - 1, by omega⟩
    simp only [aviaryref10_Same.l0]
    rw [if_neg (by omega)]
  | succ d ih =>
    intro k i h0 hd hk
    obtain ⟨k, rfl⟩ : ∃ m, k = m + 1 := ⟨k - 1, by omega⟩
    have hi : i.toNat < l.length := by omega
    have hm : rd_T59 l i ∈ l := by
      unfold rd_T59
      rw [List.getD_eq_getElem?_getD, List.getElem?_eq_getElem hi]
      exact List.getElem_mem hi
    obtain ⟨⟨q0, q1, q2, q3⟩, p0, p1, p2, p3⟩ := hK _ hm
    simp only [aviaryref10_Same.l0]
    rw [if_pos (by omega), if_pos h0, if_pos (by omega), bSame_eq q0 (by omega), bSame_eq q1 (by omega), bSame_eq q2 (by omega), bSame_eq q3 (by omega)]
    simp only [Option.bind_some, decide_true, if_true]
    rw [show wrap64 (i + 1) = i + 1 by unfold wrap64; omega]
    exact ih k (i + 1) (by omega) (by omega) (by omega)
theorem gSame_true {l : List S59} (hb : l.length ≤ 4611686018427387904) {K : Nat} (hK : ∀ g ∈ l, (g.f0.length ≤ 4611686018427387904 ∧ g.f1.length ≤ 4611686018427387904 ∧ g.f2.length ≤ 4611686018427387904 ∧ g.f3.length ≤ 4611686018427387904) ∧ (g.f0.length < K ∧ g.f1.length < K ∧ g.f2.length < K ∧ g.f3.length < K)) (x0 x1 : Int) {k : Nat} (hk : l.length + K + 1 < k) : aviaryref10_Same.f k x0 x1 l x0 x1 l = some true := by
  unfold aviaryref10_Same.f
  rw [if_pos rfl, if_pos rfl]
  obtain ⟨k, rfl⟩ : ∃ m, k = m + 1 := ⟨k - 1, by omega⟩
  simp only [aviaryref10_Same.j0, bne_self_eq_false, Bool.false_eq_true, if_false]
  exact gSame_l0 hb hK x0 x1 x0 x1 l.length k 0 (by omega) (by omega) (by omega)
theorem cut59_len {m i : Nat} {l : List Int} {g : S59} (hg : g = cut59 m l i) (hm : m ≤ 100) : (g.f0.length ≤ 4611686018427387904 ∧ g.f1.length ≤ 4611686018427387904 ∧ g.f2.length ≤ 4611686018427387904 ∧ g.f3.length ≤ 4611686018427387904) ∧ (g.f0.length < 101 ∧ g.f1.length < 101 ∧ g.f2.length < 101 ∧ g.f3.length < 101) := by
  subst hg
  simp only [cut59, List.length_take]
  omega
theorem shape59_same {n m : Nat} (hn : n ≤ 100) (hm : m ≤ 100) (l : List Int) (x0 x1 : Int) {k : Nat} (hk : 1000 < k) : aviaryref10_Same.f k x0 x1 (shape59 n m l) x0 x1 (shape59 n m l) = some true := by
  refine gSame_true (K := 101) (by simp [shape59]; omega) (fun g hg => ?_) x0 x1 (by simp [shape59]; omega)
  simp only [shape59, List.mem_map] at hg
  obtain ⟨i, _, hi⟩ := hg
  exact cut59_len hi.symm hm
theorem shapeR_same (a0 a1 b0 b1 b2 b3 b4 b5 b6 b7 : Int) (l : List Int) {k : Nat} (hk : 1000 < k) : aviaryref10_Same.f k (shapeR a0 a1 b0 b2 (rightB a0 a1 b0 b1 b2 b3 b4 b5 b6 b7) l).1 (shapeR a0 a1 b0 b2 (rightB a0 a1 b0 b1 b2 b3 b4 b5 b6 b7) l).2.1 (shapeR a0 a1 b0 b2 (rightB a0 a1 b0 b1 b2 b3 b4 b5 b6 b7) l).2.2.1 (shapeR a0 a1 b0 b2 (rightB a0 a1 b0 b1 b2 b3 b4 b5 b6 b7) l).1 (shapeR a0 a1 b0 b2 (rightB a0 a1 b0 b1 b2 b3 b4 b5 b6 b7) l).2.1 (shapeR a0 a1 b0 b2 (rightB a0 a1 b0 b1 b2 b3 b4 b5 b6 b7) l).2.2.1 = some true := by
  unfold shapeR
  cases e : rightB a0 a1 b0 b1 b2 b3 b4 b5 b6 b7
  · exact gSame_true (l := []) (K := 0) (by simp) (by simp) 0 0 (by simp; omega)
  · obtain ⟨_, _, _, h4, h5⟩ := right_bounds e
    simp only [if_true]
    by_cases hl : (l.length : Int) = b2 * 4 * (a0 * b0)
    · rw [if_pos hl]
      exact shape59_same (by omega) (by omega) l a0 a1 hk
    · rw [if_neg hl]
      exact gSame_true (l := []) (K := 0) (by simp) (by simp) 0 0 (by simp; omega)

theorem GraftShapes (a0 a1 b0 b1 b2 b3 b4 b5 b6 b7 : Int) (l : List Int) (h0 : (Lit.int .i64 a0).wf = true) (h1 : (Lit.int .i64 a1).wf = true) (hm : l.length ≤ maxLen) (hl : l.length * 1 ≤ 140737488351232) (hw : ∀ x ∈ l, (Lit.int .i8 x).wf = true) :
    ∃ k, aviarylaw10_GraftShapes.f k a0 a1 b0 b1 b2 b3 b4 b5 b6 b7 l = some true := by
  refine ⟨1998 + 3, ?_⟩
  simp only [aviarylaw10_GraftShapes.f, Option.bind_some, List.nil_append, Shape_eq, rShape_eq]
  rw [if_pos (by simp; omega), shapeR_same a0 a1 b0 b1 b2 b3 b4 b5 b6 b7 l (by omega)]
  simp

end Go.Proofs.Ytekaiebfgcjddaa.Pure
