import Derived.Test.YtnpecffgfanadaaMCurve
import Derived.Test.YtnpecffgfanadaaMVec
set_option linter.unusedVariables false
set_option linter.unusedSimpArgs false
namespace Go.Proofs.Ytnpecffgfanadaa.Mth
open Go Go.RowKit Go.Proofs.YtnpecffgfanadaaW.PrintWords Go.Proofs.YtnpecffgfanadaaW.PrintLast
def turnA (a b n : Int) : Int := clampI (mulI a (cosI n) - mulI b (sinI n))
def turnB (a b n : Int) : Int := clampI (mulI a (sinI n) + mulI b (cosI n))
def turnL (p : Int) : Int → List Int → List Int
  | n, a :: b :: l => turnA a b n :: turnB a b n :: turnL p (n + p) l
  | _, _ => []
def turnI (x : List Int) (p : Int) : List Int := turnL p p x
theorem turnL_len (p : Int) : ∀ (x : List Int) (n : Int), x.length % 2 = 0 → (turnL p n x).length = x.length
  | [], n, h => rfl
  | [a], n, h => by simp at h
  | a :: b :: l, n, h => by
    have := turnL_len p l (n + p) (by simp only [List.length_cons] at h; omega)
    simp only [turnL, List.length_cons, this]
theorem turnI_len {x : List Int} (p : Int) (h : x.length % 2 = 0) : (turnI x p).length = x.length := turnL_len p x p h
theorem turnL_len_le (p : Int) : ∀ (x : List Int) (n : Int), (turnL p n x).length ≤ x.length
  | [], n => Nat.le_refl _
  | [a], n => Nat.zero_le _
  | a :: b :: l, n => by
    have := turnL_len_le p l (n + p)
    simp only [turnL, List.length_cons]
    omega
theorem turnI_len_le (x : List Int) (p : Int) : (turnI x p).length ≤ x.length := turnL_len_le p x p
theorem trig_mod {n m : Int} (h : n % 16 = m % 16) : cosI n = cosI m ∧ sinI n = sinI m := by unfold cosI sinI; rw [h]; exact ⟨rfl, rfl⟩
theorem turnL_mod {p q : Int} (hp : p % 16 = q % 16) : ∀ (x : List Int) (n m : Int), n % 16 = m % 16 → turnL p n x = turnL q m x
  | [], n, m, h => rfl
  | [a], n, m, h => rfl
  | a :: b :: l, n, m, h => by
    have ht := trig_mod h
    simp only [turnL, turnA, turnB, ht.1, ht.2]
    rw [turnL_mod hp l (n + p) (m + q) (by omega)]
theorem turnI_mod {p q : Int} (h : p % 16 = q % 16) (x : List Int) : turnI x p = turnI x q := turnL_mod h x p q h
theorem mulI_zero (a : Int) : mulI a 0 = 0 := by
  unfold mulI
  have e : clampI 0 = 0 := by decide
  rw [e, Int.mul_zero, rdivI_zero, e]
theorem turnL_zero : ∀ (x : List Int), x.length % 2 = 0 → turnL 0 0 x = x.map clampI
  | [], h => rfl
  | [a], h => by simp at h
  | a :: b :: l, h => by
    have hc : cosI 0 = 65536 := by decide
    have hs : sinI 0 = 0 := by decide
    have := turnL_zero l (by simp only [List.length_cons] at h; omega)
    simp only [turnL, turnA, turnB, hc, hs, mulI_one, mulI_zero, Int.add_zero, this, List.map_cons, Int.sub_zero, Int.zero_add, clampI_idem]
theorem turnI_zero {x : List Int} (h : x.length % 2 = 0) : turnI x 0 = x.map clampI := turnL_zero x h
/-- parts of one length, each turned -/
def partsT (n : Nat) (p : Int) : Nat → List Int → List Int
  | 0, _ => []
  | r + 1, x => turnI (x.take n) p ++ partsT n p r (x.drop n)
theorem partsT_len (n : Nat) (p : Int) : ∀ (r : Nat) (x : List Int), (partsT n p r x).length ≤ x.length
  | 0, x => by simp [partsT]
  | r + 1, x => by
    have h1 := partsT_len n p r (x.drop n)
    have h2 := turnI_len_le (x.take n) p
    simp only [partsT, List.length_append]
    rw [List.length_drop] at h1
    rw [List.length_take] at h2
    omega
theorem partsT_nil (p : Int) : ∀ (r : Nat), partsT 0 p r [] = []
  | 0 => rfl
  | r + 1 => by simp only [partsT, List.take_nil, List.drop_nil, partsT_nil p r]; rfl
end Go.Proofs.Ytnpecffgfanadaa.Mth
