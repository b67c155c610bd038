import Derived.SizedLaws
import Derived.ChangeSlices
import Derived.Deep.Matrix
import Derived.Test.YtdlinhegmplgiaaXW
set_option linter.unusedVariables false
set_option linter.unusedSimpArgs false
namespace Go.Proofs.Ytdlinhegmplgiaa.Mth
open Go Go.RowKit Go.ChangeShapes Go.WideShapes Go.Deep Go.Proofs.YtdlinhegmplgiaaW.PrintWords
/-! a slice of slices of whole numbers that came in -/
theorem weights_mem_all {H : Type} {P : Program} {e : TypeId} : ∀ {l : List (DataW H)} {d : DataW H}, d ∈ l → ∀ n ∈ d.weights P e, n ∈ DataW.weightsAll P e l
  | a :: l, d, hd, n, hn => by
    simp only [DataW.weightsAll, List.mem_append]
    rcases List.mem_cons.1 hd with rfl | h
    · exact Or.inl hn
    · exact Or.inr (weights_mem_all h n hn)
theorem rows_in {H : Type} {enc : TypeId × Value → H} {P : Program} {W : World} {base : Nat} {held : Bool} {t e q : TypeId} {k : IntKind} {a : Option Addr} {len cap : Nat} {d : DataW H} {ps : List MemPlace} {ts : List TypeId} {ds : List (DataW H)} {j B : Nat}
    (hsz : (DataW.weightsEach P ts ds).all (· ≤ reachBytes) = true) (ht : ts[j]? = some t) (hd : ds[j]? = some d) (ut : P.underlying t = some (.slice e)) (ue : P.underlying e = some (.slice q)) (uq : P.underlying q = some (.int k))
    (ce : P.cellsOf e = 1) (cq : P.cellsOf q = 1) (be : P.bytesOf e = 24) (bq : P.bytesOf q = B) (h : DataW.Trod enc P W base (fun _ => true) held t (.slice a len cap) d ps) :
    ∃ l : List (List Int), len = l.length ∧ Kd.C (Kd.slice q (Kd.int k)) W a l.length l ∧ l.length ≤ cap ∧ l.length * 24 ≤ 140737488351232 ∧ ∀ r ∈ l, r.length * B ≤ 140737488351232 ∧ ∀ x ∈ r, (Lit.int k x).wf = true := by
  obtain ⟨fuel, hf⟩ := h
  rcases open_int_rows ut ue uq ce cq hf with ⟨hcs, _⟩ | ⟨a', len', cap', A, L, C, Z, hcs, _, hl, hm, hx, hr⟩
  · simp [Value.cells] at hcs
    obtain ⟨rfl, rfl, rfl⟩ := hcs
    exact ⟨[], rfl, ⟨rfl, by simp, fun h => absurd h (by simp)⟩, by simp, by simp, by simp⟩
  · simp [Value.cells] at hcs
    obtain ⟨rfl, rfl, rfl⟩ := hcs
    obtain ⟨rfl, _⟩ := Prod.mk.inj hx
    have hw := fun n hn => List.all_eq_true.1 hsz n (DataW.weights_mem_each ht hd n hn)
    have hm' : cap ≤ 9223372036854775807 := by simpa [maxLen] using hm
    have hq : ((List.range len).map fun r => (Z r).take (L r)).length = len := by simp
    refine ⟨(List.range len).map fun r => (Z r).take (L r), hq.symm, ?_, by rw [hq]; exact hl, ?_, ?_⟩
    · refine ⟨rfl, by rw [hq]; omega, fun _ => ⟨a', rfl, fun j p hj => ?_⟩⟩
      have hj' : j < len := by
        have := (List.getElem?_eq_some_iff.1 hj).1
        rw [hq] at this
        exact this
      obtain ⟨r1, r2, r3, r4, r5, r6, r7⟩ := hr j (by omega)
      rw [List.getElem?_map, List.getElem?_range hj'] at hj
      simp only [Option.map_some, Option.some.injEq] at hj
      have hp : p.length = L j := by rw [← hj, List.length_take, r4]; omega
      have r3' : C j ≤ 9223372036854775807 := by simpa [maxLen] using r3
      refine ⟨[.slice (A j) (L j) (C j)], rfl, ⟨A j, C j, by rw [hp], by omega, Kd.C_of_reads (d := (0 : Int)) (h1 := fun _ => rfl) ⟨rfl, by omega, fun h0 => ?_⟩⟩, ?_⟩
      · cases hA : A j with
        | none => have := r6 hA; omega
        | some ad =>
          refine ⟨ad, rfl, fun c hc => ?_⟩
          rw [(r7 ad hA).2 c (by omega), ← hj, List.getD_eq_getElem?_getD, List.getD_eq_getElem?_getD, List.getElem?_take, if_pos (by omega)]
      · intro i u hu
        cases i with
        | zero =>
          simp only [List.getElem?_cons_zero, Option.some.injEq] at hu
          subst hu
          show W.cell? (a'.add (j * 1 + 0)) = _
          rw [Nat.mul_one, Nat.add_zero]
          exact r1
        | succ i => simp at hu
    · have h1 := hw _ (List.mem_of_mem_head? (by simp only [DataW.weights, ut]; rfl))
      rw [be] at h1
      simp [reachBytes] at h1
      rw [hq]
      omega
    · intro r hr'
      obtain ⟨i, hi, rfl⟩ := List.mem_map.1 hr'
      have hi' : i < len := List.mem_range.1 hi
      obtain ⟨r1, r2, r3, r4, r5, r6, r7⟩ := hr i (by omega)
      refine ⟨?_, fun x hx => r5 x (List.mem_of_mem_take hx)⟩
      have hlt : ((Z i).take (L i)).length ≤ C i := by rw [List.length_take, r4]; omega
      cases hA : A i with
      | none => rw [r6 hA] at hlt; have h0 : ((Z i).take (L i)).length = 0 := by omega
                rw [h0]; simp
      | some ad =>
        have h1 : (C i) * B ∈ DataW.weights P t (DataW.slice (H := H) ((List.range len).map fun r => intRow k (A r) (L r) (Z r)) ((List.range (cap - len)).map fun j => intRow k (A (len + j)) (L (len + j)) (Z (len + j)))) := by
          simp only [DataW.weights, ut, List.mem_cons, List.mem_append]
          refine Or.inr (Or.inl (weights_mem_all (d := intRow k (A i) (L i) (Z i)) (List.mem_map.2 ⟨i, hi, rfl⟩) _ ?_))
          simp only [intRow, hA, DataW.weights, ue, List.mem_cons, bq]
          left
          congr 1
          simp [lits, r4]
          omega
        have h2 : C i * B ≤ 140737488351232 := of_decide_eq_true (hw _ h1)
        exact Nat.le_trans (Nat.mul_le_mul_right _ hlt) h2
/-- A struct of eight whole numbers, by value. -/
theorem agg8 {H : Type} {enc : TypeId × Value → H} {P : Program} {w : World} {base : Nat} {sp : Nat → Bool} {held : Bool} {t q : TypeId} {fs : Array Field} {r : Reach} {b0 : Nat} {v : Value} {d : DataW H} {p : List MemPlace}
    (hs : P.underlying t = some (.struct fs)) (hq : P.underlying q = some (.int .i64)) (hc : P.cellsOf q = 1) (hC : P.cellsOf t = 8) (hn : fs.size = 8) (hfs : ∀ i, i < 8 → (fs[i]?).map (fun f => (f.type, f.offset)) = some (q, i))
    (hv : Value.okWide P w r b0 t v) (h : DataW.Trod enc P w base sp held t v d p) :
    ∃ a0 a1 a2 a3 a4 a5 a6 a7 : Int, v = .agg #[.int .i64 a0, .int .i64 a1, .int .i64 a2, .int .i64 a3, .int .i64 a4, .int .i64 a5, .int .i64 a6, .int .i64 a7] := by
  obtain ⟨cs, rfl, hsz⟩ := Go.WideShapes.okWide_struct hs hv
  obtain ⟨fuel, hf⟩ := h
  obtain ⟨xs, n, _, _, _, hlen, hf2⟩ := DataW.trod_struct hs hf
  have g : ∀ i, i < 8 → ∃ m : Int, cs.toList[i]? = some (.int .i64 m) := by
    intro i hi
    obtain ⟨f, h1, h2⟩ := Option.map_eq_some_iff.1 (hfs i hi)
    simp only [Prod.mk.injEq] at h2
    have h3 := hf2 i f h1
    rw [h2.1, h2.2, hc, List.getElem?_eq_getElem (by omega)] at h3
    obtain ⟨m, h4, _, _⟩ := DataW.trod_int hq h3
    have h5 := congrArg (fun l => l[0]?) h4
    refine ⟨m, ?_⟩
    simpa [Value.cells] using h5
  rw [hC] at hsz
  obtain ⟨l⟩ := cs
  have hl : l.length = 8 := by simpa using hsz
  match l, hl, g with
  | [x0, x1, x2, x3, x4, x5, x6, x7], _, g =>
    obtain ⟨a0, e0⟩ := g 0 (by omega)
    obtain ⟨a1, e1⟩ := g 1 (by omega)
    obtain ⟨a2, e2⟩ := g 2 (by omega)
    obtain ⟨a3, e3⟩ := g 3 (by omega)
    obtain ⟨a4, e4⟩ := g 4 (by omega)
    obtain ⟨a5, e5⟩ := g 5 (by omega)
    obtain ⟨a6, e6⟩ := g 6 (by omega)
    obtain ⟨a7, e7⟩ := g 7 (by omega)
    simp at e0 e1 e2 e3 e4 e5 e6 e7
    subst e0 e1 e2 e3 e4 e5 e6 e7
    exact ⟨a0, a1, a2, a3, a4, a5, a6, a7, rfl⟩
end Go.Proofs.Ytdlinhegmplgiaa.Mth
