/- Short words for what the printed walks say again and again. -/
import Derived.Test.YtekaiebfgcjddaaXMore
set_option linter.unusedVariables false
set_option linter.unusedSimpArgs false
namespace Go.Proofs.YtekaiebfgcjddaaW.PrintWords
open Go.RowKit
/-- What lies in a world lies in a later one. -/
class Later (W W' : World) : Prop where
  at_ : ∀ (g : Nat) (o : Obj), W.heap[g]? = some o → W'.heap[g]? = some o
instance (W : World) : Later W W := ⟨fun _ _ h => h⟩
instance {W W' : World} [h : Later W W'] : Later W W'.drew := ⟨fun g o k => blk_drew (h.at_ g o k)⟩
instance {W W' : World} [h : Later W W'] (n : Nat) : Later W (W'.drewN n) := ⟨fun g o k => blk_drewN (h.at_ g o k) n⟩
instance {W W' : World} [h : Later W W'] (o : Obj) : Later W (W'.alloc o) := ⟨fun g p k => blk_alloc (h.at_ g p k) o⟩
theorem bkl_ {W W' : World} {g : Nat} {o : Obj} (h : W.heap[g]? = some o) [L : Later W W'] : W'.heap[g]? = some o := L.at_ g o h
theorem by_ {P : Prop} (h : P := by repeat (first | (with_reducible first | exact HB.out | apply below_alloc | apply pw_below_drewN | apply below_drew1 | refine below_set ?_ (Aside0.out (by assumption))) | exact HB.out)) : P := h
theorem ar_ {P : Prop} (h : P := by (try simp only [List.map_toArray, List.map_cons, List.map_nil]); first | done | rfl | (simp only [List.length_drop, List.length_take]; rfl)) : P := h
end Go.Proofs.YtekaiebfgcjddaaW.PrintWords
