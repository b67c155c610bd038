/- Of any configuration the program and the reference tell alike whether it is right, and how many weights there are. No condition. -/
import Derived.Test.YtdlinhegmplgiaaPCkptConfigsx6
set_option linter.unusedVariables false
set_option linter.unusedSimpArgs false
namespace Go.Proofs.Ytdlinhegmplgiaa.Pure
open Go Go.RowKit Go.Proofs.Ytdlinhegmplgiaa.PCkptConfigs Go.Proofs.YtdlinhegmplgiaaW.PrintWords Go.Proofs.YtdlinhegmplgiaaW.PrintLast 
def wB (n l h : Int) : Bool := decide (l ≤ n) && decide (n ≤ h)
def restB (a2 a3 a4 a7 : Int) : Bool := wB a2 1 2 && (wB a3 2 16 && (wB a4 1 8 && wB a7 0 16))
def mixB (a5 a6 : Int) : Bool := (decide (a5 = 0) && decide (a6 = 0)) || (wB a5 2 4 && wB a6 1 a5)
def headB (a0 a1 : Int) : Bool := wB a0 2 8 && (wB a1 1 a0 && (decide (Int.tdiv a0 a1 * a1 = a0) && decide (Int.tmod (Int.tdiv a0 a1) 2 = 0)))
def cfgB (a0 a1 a2 a3 a4 a5 a6 a7 : Int) : Bool := headB a0 a1 && (mixB a5 a6 && restB a2 a3 a4 a7)
theorem within_eq (n l h : Int) : ckpt_within.f n l h = some (wB n l h) := by
  unfold ckpt_within.f wB
  by_cases hh : l ≤ n
  · rw [if_pos hh]; simp [hh]
  · rw [if_neg hh]; simp [hh]
theorem in_eq (n l h : Int) : aviaryref09_in.f n l h = some (wB n l h) := by
  unfold aviaryref09_in.f wB
  by_cases hh : l ≤ n
  · rw [if_pos hh]; simp [hh]
  · rw [if_neg hh]; simp [hh]
theorem j2_eq (k : Nat) (x : Bool) (a0 a1 a2 a3 a4 a5 a6 a7 : Int) : ckpt_Config.j2 (k + 1) x a0 a1 a2 a3 a4 a5 a6 a7 = some (x && restB a2 a3 a4 a7) := by
  simp only [ckpt_Config.j2, within_eq, Option.bind_some, restB]
  cases x <;> cases wB a2 1 2 <;> cases wB a3 2 16 <;> cases wB a4 1 8 <;> cases wB a7 0 16 <;> rfl
theorem j1_eq (k : Nat) (x : Bool) (a0 a1 a2 a3 a4 a5 a6 a7 : Int) : ckpt_Config.j1 (k + 2) x a0 a1 a2 a3 a4 a5 a6 a7 = some (!x && (mixB a5 a6 && restB a2 a3 a4 a7)) := by
  simp only [ckpt_Config.j1, within_eq, Option.bind_some, j2_eq, mixB]
  by_cases h5 : a5 = 0
  · by_cases h6 : a6 = 0
    · cases x <;> simp [h5, h6]
    · cases x <;> cases wB a5 2 4 <;> cases wB a6 1 a5 <;> cases restB a2 a3 a4 a7 <;> simp [h6]
  · cases x <;> cases wB a5 2 4 <;> cases wB a6 1 a5 <;> cases restB a2 a3 a4 a7 <;> simp [h5]
theorem rj1_eq (k : Nat) (x : Bool) (a0 a1 a2 a3 a4 a5 a6 a7 : Int) : aviaryref09_Config.j1 (k + 1) x a0 a1 a2 a3 a4 a5 a6 a7 = some (x && restB a2 a3 a4 a7) := by
  simp only [aviaryref09_Config.j1, in_eq, Option.bind_some, restB]
  cases x <;> cases wB a2 1 2 <;> cases wB a3 2 16 <;> cases wB a4 1 8 <;> cases wB a7 0 16 <;> rfl
theorem rj0_eq (k : Nat) (x : Bool) (a0 a1 a2 a3 a4 a5 a6 a7 : Int) : aviaryref09_Config.j0 (k + 2) x a0 a1 a2 a3 a4 a5 a6 a7 = some (!x && (mixB a5 a6 && restB a2 a3 a4 a7)) := by
  simp only [aviaryref09_Config.j0, in_eq, Option.bind_some, rj1_eq, mixB]
  by_cases h5 : a5 = 0
  · by_cases h6 : a6 = 0
    · cases x <;> simp [h5, h6]
    · cases x <;> cases wB a5 2 4 <;> cases wB a6 1 a5 <;> cases restB a2 a3 a4 a7 <;> simp [h6]
  · cases x <;> cases wB a5 2 4 <;> cases wB a6 1 a5 <;> cases restB a2 a3 a4 a7 <;> simp [h5]
theorem fin_ (a0 a1 : Int) (h1 : 2 ≤ a0) (h2 : a0 ≤ 8) (h3 : 1 ≤ a1) (h4 : a1 ≤ a0) : wrap64 (Int.tdiv a0 a1) = Int.tdiv a0 a1 ∧ wrap64 (Int.tdiv a0 a1 * a1) = Int.tdiv a0 a1 * a1 ∧
    (decide (Int.tdiv a0 a1 * a1 = a0) && decide (Int.tmod (Int.tdiv a0 a1) 2 = 0)) = (decide (Int.tmod a0 2 = 0) && (wB a1 1 4 && (decide (Int.tmod a0 a1 = 0) && decide (Int.tmod (Int.tdiv a0 a1) 2 = 0)))) := by
  obtain rfl | rfl | rfl | rfl | rfl | rfl | rfl : a0 = 2 ∨ a0 = 3 ∨ a0 = 4 ∨ a0 = 5 ∨ a0 = 6 ∨ a0 = 7 ∨ a0 = 8 := by omega
  all_goals
    obtain rfl | rfl | rfl | rfl | rfl | rfl | rfl | rfl : a1 = 1 ∨ a1 = 2 ∨ a1 = 3 ∨ a1 = 4 ∨ a1 = 5 ∨ a1 = 6 ∨ a1 = 7 ∨ a1 = 8 := by omega
    all_goals first | (exfalso; omega) | (decide +kernel)
theorem Config_eq (k : Nat) (a0 a1 a2 a3 a4 a5 a6 a7 : Int) : ckpt_Config.f (k + 3) a0 a1 a2 a3 a4 a5 a6 a7 = some (cfgB a0 a1 a2 a3 a4 a5 a6 a7) := by
  simp only [ckpt_Config.f, within_eq, Option.bind_some, ckpt_Config.j0, j1_eq]
  unfold cfgB headB
  cases e0 : wB a0 2 8 with
  | false => simp
  | true =>
    cases e1 : wB a1 1 a0 with
    | false => simp
    | true =>
      have b0 := e0
      have b1 := e1
      simp only [wB, Bool.and_eq_true, decide_eq_true_eq] at b0 b1
      obtain ⟨f1, f2, _⟩ := fin_ a0 a1 b0.1 b0.2 b1.1 b1.2
      rw [f1, f2]
      have hne : a1 ≠ 0 := by omega
      by_cases c : Int.tdiv a0 a1 * a1 = a0
      · by_cases c2 : Int.tmod (Int.tdiv a0 a1) 2 = 0 <;> simp [c, c2, hne]
      · simp [c, hne]
theorem rConfig_eq (k : Nat) (a0 a1 a2 a3 a4 a5 a6 a7 : Int) : aviaryref09_Config.f (k + 3) a0 a1 a2 a3 a4 a5 a6 a7 = some (cfgB a0 a1 a2 a3 a4 a5 a6 a7) := by
  simp only [aviaryref09_Config.f, in_eq, Option.bind_some, rj0_eq]
  unfold cfgB headB
  cases e0 : wB a0 2 8 with
  | false => simp
  | true =>
    have b0 := e0
    simp only [wB, Bool.and_eq_true, decide_eq_true_eq] at b0
    cases e4 : wB a1 1 4 with
    | false =>
      cases e1 : wB a1 1 a0 with
      | false => by_cases c : Int.tmod a0 2 = 0 <;> simp [c]
      | true =>
        have b1 := e1
        simp only [wB, Bool.and_eq_true, decide_eq_true_eq] at b1
        obtain ⟨_, _, f3⟩ := fin_ a0 a1 b0.1 b0.2 b1.1 b1.2
        rw [f3, e4]
        by_cases c : Int.tmod a0 2 = 0 <;> simp [c]
    | true =>
      have b4 := e4
      simp only [wB, Bool.and_eq_true, decide_eq_true_eq] at b4
      have hne : a1 ≠ 0 := by omega
      cases e1 : wB a1 1 a0 with
      | false =>
        have g : a0 < a1 := by
          simp only [wB, Bool.and_eq_false_iff, decide_eq_false_iff_not] at e1
          omega
        have g2 : Int.tmod a0 a1 ≠ 0 := by
          rw [Int.tmod_eq_of_lt (by omega) g]
          omega
        by_cases c : Int.tmod a0 2 = 0 <;> simp [c, g2, hne]
      | true =>
        have b1 := e1
        simp only [wB, Bool.and_eq_true, decide_eq_true_eq] at b1
        obtain ⟨f1, _, f3⟩ := fin_ a0 a1 b0.1 b0.2 b1.1 b1.2
        rw [f3, f1, e4]
        by_cases c : Int.tmod a0 2 = 0
        · by_cases c2 : Int.tmod a0 a1 = 0
          · by_cases c3 : Int.tmod (Int.tdiv a0 a1) 2 = 0 <;> simp [c, c2, c3, hne]
          · simp [c, c2, hne]
        · simp [c]
theorem wexp (x : Int) : ∃ q, wrap64 x = x + 18446744073709551616 * q := by
  unfold wrap64
  exact ⟨-((x + 9223372036854775808) / 18446744073709551616), by omega⟩
theorem wmul (x y : Int) : wrap64 (wrap64 x * y) = wrap64 (x * y) := by
  obtain ⟨q, hq⟩ := wexp x
  rw [hq, Int.add_mul, Int.mul_assoc]
  generalize q * y = z
  generalize x * y = u
  unfold wrap64
  omega
theorem wmul' (x y : Int) : wrap64 (x * wrap64 y) = wrap64 (x * y) := by rw [Int.mul_comm, wmul, Int.mul_comm]
theorem wadd (x y : Int) : wrap64 (wrap64 x + y) = wrap64 (x + y) := by unfold wrap64; omega
theorem wadd' (x y : Int) : wrap64 (x + wrap64 y) = wrap64 (x + y) := by unfold wrap64; omega
theorem Size_eq (k : Nat) (a0 a1 a2 a3 a4 a5 a6 a7 : Int) : ∃ r, ckpt_Size.f (k + 3) a0 a1 a2 a3 a4 a5 a6 a7 = some r ∧ aviaryref09_Size.f (k + 3) a0 a1 a2 a3 a4 a5 a6 a7 = some r := by
  simp only [ckpt_Size.f, aviaryref09_Size.f, Config_eq, rConfig_eq, Option.bind_some, aviaryref09_layer.f]
  cases e : cfgB a0 a1 a2 a3 a4 a5 a6 a7 with
  | false => exact ⟨0, by simp, by simp⟩
  | true =>
    have hb : 0 ≤ a2 ∧ a2 ≤ 2 ∧ a5 ≤ 4 := by
      simp only [cfgB, mixB, restB, wB, Bool.and_eq_true, Bool.or_eq_true, decide_eq_true_eq] at e
      omega
    refine ⟨_, by rw [if_pos rfl, if_pos hb], ?_⟩
    rw [if_pos rfl]
    congr 1
    simp only [wmul, wmul', wadd, wadd']
    have hm : mx 1 a5 = mx a5 1 := by unfold mx; split <;> split <;> omega
    rw [hm]
    simp only [Int.mul_assoc]
    congr 1
    generalize a2 * _ = s
    generalize a3 * a0 = t
    omega
theorem CkptConfigs (a0 a1 a2 a3 a4 a5 a6 a7 : Int) : ∃ k, aviarylaw09_CkptConfigs.f k a0 a1 a2 a3 a4 a5 a6 a7 = some true := by
  refine ⟨3, ?_⟩
  obtain ⟨r, h1, h2⟩ := Size_eq 0 a0 a1 a2 a3 a4 a5 a6 a7
  have c1 := Config_eq 0 a0 a1 a2 a3 a4 a5 a6 a7
  have c2 := rConfig_eq 0 a0 a1 a2 a3 a4 a5 a6 a7
  simp only [Nat.zero_add] at h1 h2 c1 c2
  simp only [aviarylaw09_CkptConfigs.f, c1, c2, h1, h2, Option.bind_some]
  simp

end Go.Proofs.Ytdlinhegmplgiaa.Pure
