/-
  No cell of these rows narrows 'for every input' (looked for: loops, veiled, ifaces, maps, wideKeys, modest, calm, conditions, laid).
  DERIVED. THE GIVEN ROWS OF THIS SEAT. 6 by the template 'for every input the law returns true; each argument reads behind the call as it read before'; 0 by the template 'total and deterministic' (their statements: YtembeccopodjmaaTotals.lean).
  GIVEN WITH THE SEED: the statements are not yours to turn. If you find one false, say at which input.
  Laid BY PROGRAM, IN A SANDBOX (cutbox-rows.mjs): the forced cells as the released guide's own fill.sh prints them over the translation 86d04e3e32e30b23… (all of the seat's roots in one cut). By AI agents, Wed Nov 11 2026. No macro, syntax, notation, axiom, sorry.
-/
import Derived.Test.YtembeccopodjmaaChecked
import GoSem.Claim
import GoSem.ClaimJoined
import GoSem.ClaimMapViews
import Derived.JoinedTies
import Derived.KernelRfl
namespace Go.Proofs.Ytembeccopodjmaa
/- THE CELL 'sum', in the pinned program and in every row, IS THE sha256 OF THE DUMP (.gsa) THAT YtembeccopodjmaaProg.lean LOADS. Nothing in Lean hashes anything: it is a label: what it is worth is what the hold of that sum in a sandbox is worth. -/
noncomputable def Try.pinned : Pinned := { name := "ytembeccopodjmaa", sum := "86d04e3e32e30b2338a4fe8cd474eb72383b2aeb762eb7cfb5ae438f704b0e77", checked := Try.checked }
namespace Rows
def none {H : Type} : Left H := { results := [], args := [] }

/-- 'aviarylaw05.NormMeans': WHATEVER THE INPUT: true; the input reads as it did. -/
def normMeansSpec : ChangeSpec := { name := "normMeans", fn := fun _ => fun
  | [d] => { results := [.lit (.bool true)], args := [d] }
  | _ => none }
def normMeansRow : OpenClaim := { program := "ytembeccopodjmaa", sum := "86d04e3e32e30b2338a4fe8cd474eb72383b2aeb762eb7cfb5ae438f704b0e77", func := "aviary/aviarylaw05.NormMeans", spec := "normMeans", apart := false }
def NormMeansSaid : Prop := normMeansRow.holds Try.pinned (OpenSpec.ofChange normMeansSpec)

/-- ITS FALSE NEIGHBOUR: 'it returns false'. Refute it at one input. -/
def normMeansWrong : ChangeSpec := { name := "normMeans", fn := fun _ => fun
  | [d] => { results := [.lit (.bool false)], args := [d] }
  | _ => none }
def NormMeansWrongFalsely : Prop := normMeansRow.holds Try.pinned (OpenSpec.ofChange normMeansWrong)

/-- 'aviarylaw05.NormSizes': WHATEVER THE INPUT: true; the input reads as it did. -/
def normSizesSpec : ChangeSpec := { name := "normSizes", fn := fun _ => fun
  | [d1, d2] => { results := [.lit (.bool true)], args := [d1, d2] }
  | _ => none }
def normSizesRow : OpenClaim := { program := "ytembeccopodjmaa", sum := "86d04e3e32e30b2338a4fe8cd474eb72383b2aeb762eb7cfb5ae438f704b0e77", func := "aviary/aviarylaw05.NormSizes", spec := "normSizes", apart := false }
def NormSizesSaid : Prop := normSizesRow.holds Try.pinned (OpenSpec.ofChange normSizesSpec)

/-- ITS FALSE NEIGHBOUR: 'it returns false'. Refute it at one input. -/
def normSizesWrong : ChangeSpec := { name := "normSizes", fn := fun _ => fun
  | [d1, d2] => { results := [.lit (.bool false)], args := [d1, d2] }
  | _ => none }
def NormSizesWrongFalsely : Prop := normSizesRow.holds Try.pinned (OpenSpec.ofChange normSizesWrong)

/-- 'aviarylaw05.NormShares': WHATEVER THE INPUT: true; the input reads as it did. -/
def normSharesSpec : ChangeSpec := { name := "normShares", fn := fun _ => fun
  | [d] => { results := [.lit (.bool true)], args := [d] }
  | _ => none }
def normSharesRow : OpenClaim := { program := "ytembeccopodjmaa", sum := "86d04e3e32e30b2338a4fe8cd474eb72383b2aeb762eb7cfb5ae438f704b0e77", func := "aviary/aviarylaw05.NormShares", spec := "normShares", apart := false }
def NormSharesSaid : Prop := normSharesRow.holds Try.pinned (OpenSpec.ofChange normSharesSpec)

/-- ITS FALSE NEIGHBOUR: 'it returns false'. Refute it at one input. -/
def normSharesWrong : ChangeSpec := { name := "normShares", fn := fun _ => fun
  | [d] => { results := [.lit (.bool false)], args := [d] }
  | _ => none }
def NormSharesWrongFalsely : Prop := normSharesRow.holds Try.pinned (OpenSpec.ofChange normSharesWrong)

/-- 'aviarylaw05.NormParts': WHATEVER THE INPUT: true; the input reads as it did. -/
def normPartsSpec : ChangeSpec := { name := "normParts", fn := fun _ => fun
  | [d] => { results := [.lit (.bool true)], args := [d] }
  | _ => none }
def normPartsRow : OpenClaim := { program := "ytembeccopodjmaa", sum := "86d04e3e32e30b2338a4fe8cd474eb72383b2aeb762eb7cfb5ae438f704b0e77", func := "aviary/aviarylaw05.NormParts", spec := "normParts", apart := false }
def NormPartsSaid : Prop := normPartsRow.holds Try.pinned (OpenSpec.ofChange normPartsSpec)

/-- ITS FALSE NEIGHBOUR: 'it returns false'. Refute it at one input. -/
def normPartsWrong : ChangeSpec := { name := "normParts", fn := fun _ => fun
  | [d] => { results := [.lit (.bool false)], args := [d] }
  | _ => none }
def NormPartsWrongFalsely : Prop := normPartsRow.holds Try.pinned (OpenSpec.ofChange normPartsWrong)

/-- 'aviarylaw05.NormMoved': WHATEVER THE INPUT: true; the input reads as it did. -/
def normMovedSpec : ChangeSpec := { name := "normMoved", fn := fun _ => fun
  | [d1, d2, d3] => { results := [.lit (.bool true)], args := [d1, d2, d3] }
  | _ => none }
def normMovedRow : OpenClaim := { program := "ytembeccopodjmaa", sum := "86d04e3e32e30b2338a4fe8cd474eb72383b2aeb762eb7cfb5ae438f704b0e77", func := "aviary/aviarylaw05.NormMoved", spec := "normMoved", apart := false }
def NormMovedSaid : Prop := normMovedRow.holds Try.pinned (OpenSpec.ofChange normMovedSpec)

/-- ITS FALSE NEIGHBOUR: 'it returns false'. Refute it at one input. -/
def normMovedWrong : ChangeSpec := { name := "normMoved", fn := fun _ => fun
  | [d1, d2, d3] => { results := [.lit (.bool false)], args := [d1, d2, d3] }
  | _ => none }
def NormMovedWrongFalsely : Prop := normMovedRow.holds Try.pinned (OpenSpec.ofChange normMovedWrong)

/-- 'aviarylaw05.NormTurned': WHATEVER THE INPUT: true; the input reads as it did. -/
def normTurnedSpec : ChangeSpec := { name := "normTurned", fn := fun _ => fun
  | [d] => { results := [.lit (.bool true)], args := [d] }
  | _ => none }
def normTurnedRow : OpenClaim := { program := "ytembeccopodjmaa", sum := "86d04e3e32e30b2338a4fe8cd474eb72383b2aeb762eb7cfb5ae438f704b0e77", func := "aviary/aviarylaw05.NormTurned", spec := "normTurned", apart := false }
def NormTurnedSaid : Prop := normTurnedRow.holds Try.pinned (OpenSpec.ofChange normTurnedSpec)

/-- ITS FALSE NEIGHBOUR: 'it returns false'. Refute it at one input. -/
def normTurnedWrong : ChangeSpec := { name := "normTurned", fn := fun _ => fun
  | [d] => { results := [.lit (.bool false)], args := [d] }
  | _ => none }
def NormTurnedWrongFalsely : Prop := normTurnedRow.holds Try.pinned (OpenSpec.ofChange normTurnedWrong)

/- THE SECOND FORM. 'bulk': how many values and letters a reading holds, each counted each time it is reached (what is shared counts as often as it is met; a slice's spare places count too). A statement '..UptoSaid' is the law's where the arguments, and the package variables that the reading takes, are together of bulk at most 1048576: NARROWER than '..Said'. Prove '..Said' where nothing that the law and all that it calls make is longer than what came in: it says more and counts as full. Else prove '..UptoSaid'. A law counts once. -/
mutual
def uptoBulk {H : Type} : DataW H → Nat
  | .lit (.string bytes) => bytes.length + 1
  | .lit _ => 1
  | .nil => 1
  | .ptr d => uptoBulk d + 1
  | .slice elems spare => uptoBulkAll elems + uptoBulkAll spare + 1
  | .agg parts => uptoBulkAll parts + 1
  | .iface _ d => uptoBulk d + 1
  | .map entries => uptoBulkEntries entries + 1
  | .held _ => 1
def uptoBulkAll {H : Type} : List (DataW H) → Nat
  | [] => 0
  | d :: r => uptoBulk d + uptoBulkAll r
def uptoBulkEntries {H : Type} : List (Lit × DataW H) → Nat
  | [] => 0
  | x :: r => uptoBulkEntry x + uptoBulkEntries r
def uptoBulkEntry {H : Type} : Lit × DataW H → Nat
  | (.string bytes, d) => bytes.length + uptoBulk d + 1
  | (_, d) => uptoBulk d + 1
 end
def uptoSmall : (H : Type) → List (DataW H) → Bool := fun _ ds => decide (uptoBulkAll ds ≤ 1048576)
def OpenSpec.upto (s : _root_.Go.ChangeSpec) : _root_.Go.OpenSpec := { _root_.Go.OpenSpec.ofChange s with cond := some uptoSmall }

/-- 'aviarylaw05.NormMeans', WHERE WHAT IT READS IS OF BULK AT MOST 1048576: true; the input reads as it did. -/
def normMeansUptoRow : OpenClaim := { program := "ytembeccopodjmaa", sum := "86d04e3e32e30b2338a4fe8cd474eb72383b2aeb762eb7cfb5ae438f704b0e77", func := "aviary/aviarylaw05.NormMeans", spec := "normMeans", apart := false, narrowed := true }
def NormMeansUptoSaid : Prop := normMeansUptoRow.holds Try.pinned (OpenSpec.upto normMeansSpec)

/-- 'aviarylaw05.NormSizes', WHERE WHAT IT READS IS OF BULK AT MOST 1048576: true; the input reads as it did. -/
def normSizesUptoRow : OpenClaim := { program := "ytembeccopodjmaa", sum := "86d04e3e32e30b2338a4fe8cd474eb72383b2aeb762eb7cfb5ae438f704b0e77", func := "aviary/aviarylaw05.NormSizes", spec := "normSizes", apart := false, narrowed := true }
def NormSizesUptoSaid : Prop := normSizesUptoRow.holds Try.pinned (OpenSpec.upto normSizesSpec)

/-- 'aviarylaw05.NormShares', WHERE WHAT IT READS IS OF BULK AT MOST 1048576: true; the input reads as it did. -/
def normSharesUptoRow : OpenClaim := { program := "ytembeccopodjmaa", sum := "86d04e3e32e30b2338a4fe8cd474eb72383b2aeb762eb7cfb5ae438f704b0e77", func := "aviary/aviarylaw05.NormShares", spec := "normShares", apart := false, narrowed := true }
def NormSharesUptoSaid : Prop := normSharesUptoRow.holds Try.pinned (OpenSpec.upto normSharesSpec)

/-- 'aviarylaw05.NormParts', WHERE WHAT IT READS IS OF BULK AT MOST 1048576: true; the input reads as it did. -/
def normPartsUptoRow : OpenClaim := { program := "ytembeccopodjmaa", sum := "86d04e3e32e30b2338a4fe8cd474eb72383b2aeb762eb7cfb5ae438f704b0e77", func := "aviary/aviarylaw05.NormParts", spec := "normParts", apart := false, narrowed := true }
def NormPartsUptoSaid : Prop := normPartsUptoRow.holds Try.pinned (OpenSpec.upto normPartsSpec)

/-- 'aviarylaw05.NormMoved', WHERE WHAT IT READS IS OF BULK AT MOST 1048576: true; the input reads as it did. -/
def normMovedUptoRow : OpenClaim := { program := "ytembeccopodjmaa", sum := "86d04e3e32e30b2338a4fe8cd474eb72383b2aeb762eb7cfb5ae438f704b0e77", func := "aviary/aviarylaw05.NormMoved", spec := "normMoved", apart := false, narrowed := true }
def NormMovedUptoSaid : Prop := normMovedUptoRow.holds Try.pinned (OpenSpec.upto normMovedSpec)

/-- 'aviarylaw05.NormTurned', WHERE WHAT IT READS IS OF BULK AT MOST 1048576: true; the input reads as it did. -/
def normTurnedUptoRow : OpenClaim := { program := "ytembeccopodjmaa", sum := "86d04e3e32e30b2338a4fe8cd474eb72383b2aeb762eb7cfb5ae438f704b0e77", func := "aviary/aviarylaw05.NormTurned", spec := "normTurned", apart := false, narrowed := true }
def NormTurnedUptoSaid : Prop := normTurnedUptoRow.holds Try.pinned (OpenSpec.upto normTurnedSpec)

end Rows
end Go.Proofs.Ytembeccopodjmaa
