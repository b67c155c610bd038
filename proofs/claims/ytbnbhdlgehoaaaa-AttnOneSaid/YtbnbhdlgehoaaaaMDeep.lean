import Derived.SizedLaws
import Derived.ChangeSlices
import Derived.Deep.Matrix
import Derived.Test.YtbnbhdlgehoaaaaWWords
set_option linter.unusedVariables false
set_option linter.unusedSimpArgs false
namespace Go.Proofs.Ytbnbhdlgehoaaaa.Mth
open Go Go.RowKit Go.ChangeShapes Go.WideShapes Go.Deep Go.Proofs.YtbnbhdlgehoaaaaW.PrintWords
/-! a slice of slices of whole numbers that came in -/
theorem weights_mem_all {H : Type} {P : Program} {e : TypeId} : ∀ {l : List (DataW H)} {d : DataW H}, d ∈ l → ∀ n ∈ d.weights P e, n ∈ DataW.weightsAll P e l
  | a :: l, d, hd, n, hn => by
    simp only [DataW.weightsAll, List.mem_append]
    rcases List.mem_cons.1 hd with rfl | h
    · exact Or.inl hn
    · exact Or.inr (weights_mem_all h n hn)
theorem rows_in {H : Type} {enc : TypeId × Value → H} {P : Program} {W : World} {base : Nat} {held : Bool} {t e q : TypeId} {k : IntKind} {a : Option Addr} {len cap : Nat} {d : DataW H} {ps : List MemPlace} {ts : List TypeId} {ds : List (DataW H)} {j B : Nat}
    (hsz : (DataW.weightsEach P ts ds).all (· ≤ reachBytes) = true) (ht : ts[j]? = some t) (hd : ds[j]? = some d) (ut : P.underlying t = some (.slice e)) (ue : P.underlying e = some (.slice q)) (uq : P.underlying q = some (.int k))
    (ce : P.cellsOf e = 1) (cq : P.cellsOf q = 1) (be : P.bytesOf e = 24) (bq : P.bytesOf q = B) (h : DataW.Trod enc P W base (fun _ => true) held t (.slice a len cap) d ps) :
    ∃ l : List (List Int), len = l.length ∧ Kd.C (Kd.slice q (Kd.int k)) W a l.length l ∧ l.length ≤ cap ∧ l.length * 24 ≤ 140737488351232 ∧ ∀ r ∈ l, r.length * B ≤ 140737488351232 ∧ ∀ x ∈ r, (Lit.int k x).wf = true := by
  obtain ⟨fuel, hf⟩ := h
  rcases open_int_rows ut ue uq ce cq hf with ⟨hcs, _⟩ | ⟨a', len', cap', A, L, C, Z, hcs, _, hl, hm, hx, hr⟩
  · simp [Value.cells] at hcs
    obtain ⟨rfl, rfl, rfl⟩ := hcs
    exact ⟨[], rfl, ⟨rfl, by simp, fun h => absurd h (by simp)⟩, by simp, by simp, by simp⟩
  · simp [Value.cells] at hcs
    obtain ⟨rfl, rfl, rfl⟩ := hcs
    obtain ⟨rfl, _⟩ := Prod.mk.inj hx
    have hw := fun n hn => List.all_eq_true.1 hsz n (DataW.weights_mem_each ht hd n hn)
    have hm' : cap ≤ 9223372036854775807 := by simpa [maxLen] using hm
    have hq : ((List.range len).map fun r => (Z r).take (L r)).length = len := by simp
    refine ⟨(List.range len).map fun r => (Z r).take (L r), hq.symm, ?_, by rw [hq]; exact hl, ?_, ?_⟩
    · refine ⟨rfl, by rw [hq]; omega, fun _ => ⟨a', rfl, fun j p hj => ?_⟩⟩
      have hj' : j < len := by
        have := (List.getElem?_eq_some_iff.1 hj).1
        rw [hq] at this
        exact this
      obtain ⟨r1, r2, r3, r4, r5, r6, r7⟩ := hr j (by omega)
      rw [List.getElem?_map, List.getElem?_range hj'] at hj
      simp only [Option.map_some, Option.some.injEq] at hj
      have hp : p.length = L j := by rw [← hj, List.length_take, r4]; omega
      have r3' : C j ≤ 9223372036854775807 := by simpa [maxLen] using r3
      refine ⟨[.slice (A j) (L j) (C j)], rfl, ⟨A j, C j, by rw [hp], by omega, Kd.C_of_reads (d := (0 : Int)) (h1 := fun _ => rfl) ⟨rfl, by omega, fun h0 => ?_⟩⟩, ?_⟩
      · cases hA : A j with
        | none => have := r6 hA; omega
        | some ad =>
          refine ⟨ad, rfl, fun c hc => ?_⟩
          rw [(r7 ad hA).2 c (by omega), ← hj, List.getD_eq_getElem?_getD, List.getD_eq_getElem?_getD, List.getElem?_take, if_pos (by omega)]
      · intro i u hu
        cases i with
        | zero =>
          simp only [List.getElem?_cons_zero, Option.some.injEq] at hu
          subst hu
          show W.cell? (a'.add (j * 1 + 0)) = _
          rw [Nat.mul_one, Nat.add_zero]
          exact r1
        | succ i => simp at hu
    · have h1 := hw _ (List.mem_of_mem_head? (by simp only [DataW.weights, ut]; rfl))
      rw [be] at h1
      simp [reachBytes] at h1
      rw [hq]
      omega
    · intro r hr'
      obtain ⟨i, hi, rfl⟩ := List.mem_map.1 hr'
      have hi' : i < len := List.mem_range.1 hi
      obtain ⟨r1, r2, r3, r4, r5, r6, r7⟩ := hr i (by omega)
      refine ⟨?_, fun x hx => r5 x (List.mem_of_mem_take hx)⟩
      have hlt : ((Z i).take (L i)).length ≤ C i := by rw [List.length_take, r4]; omega
      cases hA : A i with
      | none => rw [r6 hA] at hlt; have h0 : ((Z i).take (L i)).length = 0 := by omega
                rw [h0]; simp
      | some ad =>
        have h1 : (C i) * B ∈ DataW.weights P t (DataW.slice (H := H) ((List.range len).map fun r => intRow k (A r) (L r) (Z r)) ((List.range (cap - len)).map fun j => intRow k (A (len + j)) (L (len + j)) (Z (len + j)))) := by
          simp only [DataW.weights, ut, List.mem_cons, List.mem_append]
          refine Or.inr (Or.inl (weights_mem_all (d := intRow k (A i) (L i) (Z i)) (List.mem_map.2 ⟨i, hi, rfl⟩) _ ?_))
          simp only [intRow, hA, DataW.weights, ue, List.mem_cons, bq]
          left
          congr 1
          simp [lits, r4]
          omega
        have h2 : C i * B ≤ 140737488351232 := of_decide_eq_true (hw _ h1)
        exact Nat.le_trans (Nat.mul_le_mul_right _ hlt) h2
end Go.Proofs.Ytbnbhdlgehoaaaa.Mth
