import Derived.SizedLaws
import Derived.ChangeSlices
import Derived.ChangeArms
import Derived.Deep.Matrix
import Derived.Test.YtdlinhegmplgiaaXW
set_option linter.unusedVariables false
set_option linter.unusedSimpArgs false
/-! What comes in, of any nesting of whole numbers, slices and structs: read as a kind of the print's. -/
namespace Go.Proofs.Ytdlinhegmplgiaa.Mth
open Go Go.RowKit Go.ChangeShapes Go.WideShapes Go.Deep Go.Proofs.YtdlinhegmplgiaaW.PrintWords
section
variable {H : Type} {enc : TypeId × Value → H} {P : Program} {W : World} {base : Nat} {held : Bool}
/-- Whatever is read at type t is of kind d, and good. -/
def Opens (H : Type) (enc : TypeId × Value → H) (P : Program) (W : World) (base : Nat) (held : Bool) {α : Type} (t : TypeId) (d : Kd α) (G : α → Prop) : Prop :=
  ∀ (fuel : Nat) (cs : List Value) (x : DataW H × List MemPlace), DataW.trod enc P W base (fun _ => true) held fuel t cs = some x → (∀ n ∈ x.1.weights P t, n ≤ reachBytes) → ∃ v : α, d.K W v cs ∧ G v
theorem mem_weightsAll {e : TypeId} : ∀ {l : List (DataW H)} {d : DataW H}, d ∈ l → ∀ n ∈ d.weights P e, n ∈ DataW.weightsAll P e l
  | a :: l, d, hd, n, hn => by
    simp only [DataW.weightsAll, List.mem_append]
    rcases List.mem_cons.1 hd with rfl | h
    · exact Or.inl hn
    · exact Or.inr (mem_weightsAll h n hn)
theorem opens_int {t : TypeId} {k : IntKind} (ut : P.underlying t = some (.int k)) : Opens H enc P W base held t (Kd.int k) (fun n => (Lit.int k n).wf = true) := by
  intro fuel cs x h _
  obtain ⟨n, hc, _, hw⟩ := DataW.trod_int ut h
  exact ⟨n, hc, hw⟩
theorem opens_slice {α : Type} {t e : TypeId} {d : Kd α} {G : α → Prop} {B : Nat} (ut : P.underlying t = some (.slice e)) (ce : P.cellsOf e = d.sz) (be : P.bytesOf e = B) (he : Opens H enc P W base held e d G) :
    Opens H enc P W base held t (Kd.slice e d) (fun l => l.length * B ≤ reachBytes ∧ ∀ v ∈ l, G v) := by
  intro fuel cs x h hw
  rcases DataW.trod_slice ut h with ⟨rfl, rfl⟩ | ⟨a, len, cap, elems, rest, n, rfl, rfl, rfl, hb, hl, hm, hel, hx, hs, _⟩
  · exact ⟨[], ⟨none, 0, rfl, Nat.le_refl _, ⟨rfl, by simp, fun h => absurd h (by simp)⟩⟩, by simp [reachBytes], by simp⟩
  · obtain ⟨hrl, _⟩ := hs rfl
    simp only [DataW.weights, ut, List.mem_cons, List.mem_append, List.length_map] at hw
    have hsz := hw _ (.inl rfl)
    rw [be] at hsz
    have each : ∀ i, i < len → ∃ v : α × List Value, d.K W v.1 v.2 ∧ G v.1 ∧ W.cells? base (a.add (i * d.sz)) d.sz = some v.2 := by
      intro i hi
      have h1 := hx i hi
      have hi2 : i < elems.length := by omega
      rw [List.getElem?_eq_getElem hi2, ce] at h1
      obtain ⟨cs', h2, h3⟩ := Option.bind_eq_some_iff.1 h1
      obtain ⟨v, hv1, hv2⟩ := he _ _ _ h3 (fun m hm => hw m (.inr (.inl (mem_weightsAll (List.mem_map.2 ⟨_, List.getElem_mem hi2, rfl⟩) m hm))))
      exact ⟨(v, cs'), hv1, hv2, h2⟩
    by_cases h0 : len = 0
    · subst h0
      exact ⟨[], ⟨some a, cap, rfl, Nat.zero_le _, ⟨rfl, by simp, fun h => absurd h (by simp)⟩⟩, by simp [reachBytes], by simp⟩
    · obtain ⟨v0, _⟩ := each 0 (by omega)
      haveI : Inhabited (α × List Value) := ⟨v0⟩
      obtain ⟨f, hf⟩ := choose_lt each
      have hlen : ((List.range len).map fun i => (f i).1).length = len := by simp
      refine ⟨(List.range len).map fun i => (f i).1, ⟨some a, cap, by rw [hlen], by rw [hlen]; exact hl, ⟨rfl, by rw [hlen]; simp only [maxLen] at hm; omega, fun _ => ⟨a, rfl, fun j p hj => ?_⟩⟩⟩, ?_, ?_⟩
      · have hj2 : j < len := by have := (List.getElem?_eq_some_iff.1 hj).1; rw [hlen] at this; exact this
        rw [List.getElem?_map, List.getElem?_range hj2] at hj
        obtain rfl := Option.some.inj hj
        obtain ⟨h1, h2, h3⟩ := hf j hj2
        obtain ⟨_, h4, h5⟩ := World.cells?_some h3
        refine ⟨(f j).2, h4, h1, fun i u hu => ?_⟩
        have hlt : i < d.sz := by rw [← h4]; exact (List.getElem?_eq_some_iff.1 hu).1
        have h6 := h5 i hlt
        rw [hu] at h6
        rw [Go.Addr.add_add] at h6
        exact h6
      · rw [hlen]
        exact Nat.le_trans (Nat.mul_le_mul_right _ (by omega)) hsz
      · intro v hv
        obtain ⟨i, hi, rfl⟩ := List.mem_map.1 hv
        exact (hf i (List.mem_range.1 hi)).2.1
/-- Fields in line. -/
def Seg (H : Type) (enc : TypeId × Value → H) (P : Program) (W : World) (base : Nat) (held : Bool) (n : Nat) : List TypeId → List Value → List (DataW H × List MemPlace) → Prop
  | [], _, _ => True
  | _ :: _, _, [] => False
  | t :: ts, cs, x :: xs => DataW.trod enc P W base (fun _ => true) held n t (cs.take (P.cellsOf t)) = some x ∧ Seg H enc P W base held n ts (cs.drop (P.cellsOf t)) xs
theorem Seg.of {n : Nat} : ∀ (ts : List TypeId) (cs : List Value) (xs : List (DataW H × List MemPlace)), xs.length = ts.length →
    (∀ i t, ts[i]? = some t → DataW.trod enc P W base (fun _ => true) held n t ((cs.drop ((ts.take i).map P.cellsOf).sum).take (P.cellsOf t)) = xs[i]?) → Seg H enc P W base held n ts cs xs
  | [], _, _, _, _ => trivial
  | t :: ts, cs, [], hl, _ => by simp at hl
  | t :: ts, cs, x :: xs, hl, h => by
    refine ⟨by simpa using h 0 t rfl, Seg.of ts _ xs (by simpa using hl) (fun i u hu => ?_)⟩
    have h1 := h (i + 1) u (by simpa using hu)
    simp only [List.take_succ_cons, List.map_cons, List.sum_cons, List.getElem?_cons_succ] at h1
    rw [List.drop_drop]
    exact h1
def OpensL (H : Type) (enc : TypeId × Value → H) (P : Program) (W : World) (base : Nat) (held : Bool) {α : Type} (ts : List TypeId) (d : Kd α) (G : α → Prop) : Prop :=
  ∀ (n : Nat) (cs : List Value) (xs : List (DataW H × List MemPlace)), cs.length = d.sz → Seg H enc P W base held n ts cs xs → (∀ m ∈ DataW.weightsEach P ts (xs.map (·.1)), m ≤ reachBytes) → ∃ v : α, d.K W v cs ∧ G v
theorem opensL_one {α : Type} {t : TypeId} {d : Kd α} {G : α → Prop} (h : Opens H enc P W base held t d G) (hc : P.cellsOf t = d.sz) : OpensL H enc P W base held [t] d G := by
  intro n cs xs hl hs hw
  match xs, hs with
  | x :: xs, hs =>
    have h1 := hs.1
    rw [List.take_of_length_le (by omega)] at h1
    exact h n cs x h1 (fun m hm => hw m (by simp only [List.map_cons, DataW.weightsEach, List.mem_append]; exact .inl hm))
theorem opensL_cons {α β : Type} {t : TypeId} {ts : List TypeId} {d : Kd α} {d' : Kd β} {G : α → Prop} {G' : β → Prop} (h : Opens H enc P W base held t d G) (hc : P.cellsOf t = d.sz) (h' : OpensL H enc P W base held ts d' G') :
    OpensL H enc P W base held (t :: ts) (Kd.pair d d') (fun v => G v.1 ∧ G' v.2) := by
  intro n cs xs hl hs hw
  match xs, hs with
  | x :: xs, hs =>
    have hl2 : cs.length = d.sz + d'.sz := hl
    obtain ⟨v, hv, hg⟩ := h n _ x hs.1 (fun m hm => hw m (by simp only [List.map_cons, DataW.weightsEach, List.mem_append]; exact .inl hm))
    obtain ⟨v', hv', hg'⟩ := h' n _ xs (by rw [List.length_drop, hl2, hc]; omega) hs.2 (fun m hm => hw m (by simp only [List.map_cons, DataW.weightsEach, List.mem_append]; exact .inr hm))
    exact ⟨(v, v'), ⟨_, _, (List.take_append_drop (P.cellsOf t) cs).symm, hv, hv'⟩, hg, hg'⟩
theorem opens_struct {α : Type} {t : TypeId} {fs : Array Field} {ts : List TypeId} {d : Kd α} {G : α → Prop} (ut : P.underlying t = some (.struct fs)) (hts : fs.toList.map (·.type) = ts) (hof : ∀ i, i < fs.size → (fs[i]?).map (·.offset) = some ((ts.take i).map P.cellsOf).sum) (hc : P.cellsOf t = d.sz) (h : OpensL H enc P W base held ts d G) :
    Opens H enc P W base held t d G := by
  intro fuel cs x hx hw
  obtain ⟨xs, n, _, rfl, hl, hlen, hf⟩ := DataW.trod_struct ut hx
  subst hts
  simp only [DataW.weights, ut] at hw
  refine h n cs xs (by rw [hl, hc]) (Seg.of _ _ _ (by simpa using hlen) (fun i u hu => ?_)) hw
  rw [List.getElem?_map] at hu
  obtain ⟨f, hfi, rfl⟩ := Option.map_eq_some_iff.1 hu
  have hi : i < fs.size := by have := (List.getElem?_eq_some_iff.1 hfi).1; simpa using this
  have hfi2 : fs[i]? = some f := by simpa using hfi
  have h2 := hof i hi
  rw [hfi2] at h2
  rw [← Option.some.inj h2]
  exact hf i f hfi2
theorem opens_iso {α β : Type} {t : TypeId} {d : Kd α} {G : α → Prop} (h : Opens H enc P W base held t d G) (f : β → α) (g : α → β) (hfg : ∀ v, f (g v) = v) : Opens H enc P W base held t (Kd.iso d f) (fun v => G (f v)) := by
  intro fuel cs x hx hw
  obtain ⟨v, hv, hg⟩ := h fuel cs x hx hw
  exact ⟨g v, by show d.K W (f (g v)) cs; rw [hfg]; exact hv, by show G (f (g v)); rw [hfg]; exact hg⟩
end
end Go.Proofs.Ytdlinhegmplgiaa.Mth
