import Derived.Test.YtekaiebfgcjddaaMNorm
set_option linter.unusedVariables false
set_option linter.unusedSimpArgs false
namespace Go.Proofs.Ytekaiebfgcjddaa.Mth
open Go Go.RowKit Go.Proofs.YtekaiebfgcjddaaW.PrintWords Go.Proofs.YtekaiebfgcjddaaW.PrintLast
def matR (w : List Int) (rows : Int) (x : List Int) : List Int × Int := if x.length = 0 ∨ rows < 0 ∨ w.length % x.length ≠ 0 ∨ ((w.length / x.length : Nat) : Int) ≠ rows then ([], 21) else (mat1 x.length x (w.length / x.length) w, 0)
theorem mat1_all64 (n : Nat) (x : List Int) : ∀ (r : Nat) (w : List Int), All64 (mat1 n x r w)
  | 0, _ => fun y hy => by simp [mat1] at hy
  | r + 1, w => fun y hy => by
    simp only [mat1] at hy
    rcases List.mem_cons.1 hy with rfl | h
    · have := clampI_range (rdivI (dotA 0 (w.take n) x) 6); unfold dotI; omega
    · exact mat1_all64 n x r _ y h
theorem matR_all64 (w : List Int) (rows : Int) (x : List Int) : All64 (matR w rows x).1 := by
  unfold matR
  split
  · intro y hy; simp at hy
  · exact mat1_all64 _ _ _ _
theorem matR_len (w : List Int) (rows : Int) (x : List Int) : (matR w rows x).1.length ≤ w.length := by
  unfold matR
  split
  · simp
  · simp only []
    rw [mat1_len]
    exact Nat.div_le_self _ _
def applyI (a b : List Int) (rank shift : Int) (x : List Int) : List Int × Int :=
  if (matR a rank x).2 = 0 then (if (matR b x.length (matR a rank x).1).2 = 0 then ((matR b x.length (matR a rank x).1).1.map (fun v => shiftI v shift), 0) else ([], (matR b x.length (matR a rank x).1).2)) else ([], (matR a rank x).2)
theorem applyI_len (a b : List Int) (rank shift : Int) (x : List Int) : (applyI a b rank shift x).1.length ≤ b.length := by
  unfold applyI
  split
  · split
    · simp only [List.length_map]
      exact matR_len _ _ _
    · simp
  · simp
end Go.Proofs.Ytekaiebfgcjddaa.Mth
