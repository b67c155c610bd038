/-
  No cell of these rows narrows 'for every input' (looked for: loops, veiled, ifaces, maps, wideKeys, modest, calm, conditions, laid).
  DERIVED. THE GIVEN ROWS OF THIS SEAT. 8 by the template 'for every input the law returns true; each argument reads behind the call as it read before'; 0 by the template 'total and deterministic' (their statements: YtbegoilegjinbaaTotals.lean).
  GIVEN WITH THE SEED: the statements are not yours to turn. If you find one false, say at which input.
  Laid BY PROGRAM, IN A SANDBOX (cutbox-rows.mjs): the forced cells as the released guide's own fill.sh prints them over the translation 57bb2fcfdd8da262… (all of the seat's roots in one cut). By AI agents, Wed Nov 11 2026. No macro, syntax, notation, axiom, sorry.
-/
import Derived.Test.YtbegoilegjinbaaChecked
import GoSem.Claim
import GoSem.ClaimJoined
import GoSem.ClaimMapViews
import Derived.JoinedTies
import Derived.KernelRfl
namespace Go.Proofs.Ytbegoilegjinbaa
/- THE CELL 'sum', in the pinned program and in every row, IS THE sha256 OF THE DUMP (.gsa) THAT YtbegoilegjinbaaProg.lean LOADS. Nothing in Lean hashes anything: it is a label: what it is worth is what the hold of that sum in a sandbox is worth. -/
noncomputable def Try.pinned : Pinned := { name := "ytbegoilegjinbaa", sum := "57bb2fcfdd8da2623ef5fe18f552aa63c720e0f5ffcb05ef4487e13a45b41002", checked := Try.checked }
namespace Rows
def none {H : Type} : Left H := { results := [], args := [] }

/-- 'aviarylaw04.VecSums': WHATEVER THE INPUT: true; the input reads as it did. -/
def vecSumsSpec : ChangeSpec := { name := "vecSums", fn := fun _ => fun
  | [d1, d2, d3] => { results := [.lit (.bool true)], args := [d1, d2, d3] }
  | _ => none }
def vecSumsRow : OpenClaim := { program := "ytbegoilegjinbaa", sum := "57bb2fcfdd8da2623ef5fe18f552aa63c720e0f5ffcb05ef4487e13a45b41002", func := "aviary/aviarylaw04.VecSums", spec := "vecSums", apart := false }
def VecSumsSaid : Prop := vecSumsRow.holds Try.pinned (OpenSpec.ofChange vecSumsSpec)

/-- ITS FALSE NEIGHBOUR: 'it returns false'. Refute it at one input. -/
def vecSumsWrong : ChangeSpec := { name := "vecSums", fn := fun _ => fun
  | [d1, d2, d3] => { results := [.lit (.bool false)], args := [d1, d2, d3] }
  | _ => none }
def VecSumsWrongFalsely : Prop := vecSumsRow.holds Try.pinned (OpenSpec.ofChange vecSumsWrong)

/-- 'aviarylaw04.VecDots': WHATEVER THE INPUT: true; the input reads as it did. -/
def vecDotsSpec : ChangeSpec := { name := "vecDots", fn := fun _ => fun
  | [d1, d2, d3] => { results := [.lit (.bool true)], args := [d1, d2, d3] }
  | _ => none }
def vecDotsRow : OpenClaim := { program := "ytbegoilegjinbaa", sum := "57bb2fcfdd8da2623ef5fe18f552aa63c720e0f5ffcb05ef4487e13a45b41002", func := "aviary/aviarylaw04.VecDots", spec := "vecDots", apart := false }
def VecDotsSaid : Prop := vecDotsRow.holds Try.pinned (OpenSpec.ofChange vecDotsSpec)

/-- ITS FALSE NEIGHBOUR: 'it returns false'. Refute it at one input. -/
def vecDotsWrong : ChangeSpec := { name := "vecDots", fn := fun _ => fun
  | [d1, d2, d3] => { results := [.lit (.bool false)], args := [d1, d2, d3] }
  | _ => none }
def VecDotsWrongFalsely : Prop := vecDotsRow.holds Try.pinned (OpenSpec.ofChange vecDotsWrong)

/-- 'aviarylaw04.VecMats': WHATEVER THE INPUT: true; the input reads as it did. -/
def vecMatsSpec : ChangeSpec := { name := "vecMats", fn := fun _ => fun
  | [d1, d2, d3] => { results := [.lit (.bool true)], args := [d1, d2, d3] }
  | _ => none }
def vecMatsRow : OpenClaim := { program := "ytbegoilegjinbaa", sum := "57bb2fcfdd8da2623ef5fe18f552aa63c720e0f5ffcb05ef4487e13a45b41002", func := "aviary/aviarylaw04.VecMats", spec := "vecMats", apart := false }
def VecMatsSaid : Prop := vecMatsRow.holds Try.pinned (OpenSpec.ofChange vecMatsSpec)

/-- ITS FALSE NEIGHBOUR: 'it returns false'. Refute it at one input. -/
def vecMatsWrong : ChangeSpec := { name := "vecMats", fn := fun _ => fun
  | [d1, d2, d3] => { results := [.lit (.bool false)], args := [d1, d2, d3] }
  | _ => none }
def VecMatsWrongFalsely : Prop := vecMatsRow.holds Try.pinned (OpenSpec.ofChange vecMatsWrong)

/-- 'aviarylaw04.VecRows': WHATEVER THE INPUT: true; the input reads as it did. -/
def vecRowsSpec : ChangeSpec := { name := "vecRows", fn := fun _ => fun
  | [d1, d2] => { results := [.lit (.bool true)], args := [d1, d2] }
  | _ => none }
def vecRowsRow : OpenClaim := { program := "ytbegoilegjinbaa", sum := "57bb2fcfdd8da2623ef5fe18f552aa63c720e0f5ffcb05ef4487e13a45b41002", func := "aviary/aviarylaw04.VecRows", spec := "vecRows", apart := false }
def VecRowsSaid : Prop := vecRowsRow.holds Try.pinned (OpenSpec.ofChange vecRowsSpec)

/-- ITS FALSE NEIGHBOUR: 'it returns false'. Refute it at one input. -/
def vecRowsWrong : ChangeSpec := { name := "vecRows", fn := fun _ => fun
  | [d1, d2] => { results := [.lit (.bool false)], args := [d1, d2] }
  | _ => none }
def VecRowsWrongFalsely : Prop := vecRowsRow.holds Try.pinned (OpenSpec.ofChange vecRowsWrong)

/-- 'aviarylaw04.VecNought': WHATEVER THE INPUT: true; the input reads as it did. -/
def vecNoughtSpec : ChangeSpec := { name := "vecNought", fn := fun _ => fun
  | [d1, d2] => { results := [.lit (.bool true)], args := [d1, d2] }
  | _ => none }
def vecNoughtRow : OpenClaim := { program := "ytbegoilegjinbaa", sum := "57bb2fcfdd8da2623ef5fe18f552aa63c720e0f5ffcb05ef4487e13a45b41002", func := "aviary/aviarylaw04.VecNought", spec := "vecNought", apart := false }
def VecNoughtSaid : Prop := vecNoughtRow.holds Try.pinned (OpenSpec.ofChange vecNoughtSpec)

/-- ITS FALSE NEIGHBOUR: 'it returns false'. Refute it at one input. -/
def vecNoughtWrong : ChangeSpec := { name := "vecNought", fn := fun _ => fun
  | [d1, d2] => { results := [.lit (.bool false)], args := [d1, d2] }
  | _ => none }
def VecNoughtWrongFalsely : Prop := vecNoughtRow.holds Try.pinned (OpenSpec.ofChange vecNoughtWrong)

/-- 'aviarylaw04.VecSplit': WHATEVER THE INPUT: true; the input reads as it did. -/
def vecSplitSpec : ChangeSpec := { name := "vecSplit", fn := fun _ => fun
  | [d1, d2, d3] => { results := [.lit (.bool true)], args := [d1, d2, d3] }
  | _ => none }
def vecSplitRow : OpenClaim := { program := "ytbegoilegjinbaa", sum := "57bb2fcfdd8da2623ef5fe18f552aa63c720e0f5ffcb05ef4487e13a45b41002", func := "aviary/aviarylaw04.VecSplit", spec := "vecSplit", apart := false }
def VecSplitSaid : Prop := vecSplitRow.holds Try.pinned (OpenSpec.ofChange vecSplitSpec)

/-- ITS FALSE NEIGHBOUR: 'it returns false'. Refute it at one input. -/
def vecSplitWrong : ChangeSpec := { name := "vecSplit", fn := fun _ => fun
  | [d1, d2, d3] => { results := [.lit (.bool false)], args := [d1, d2, d3] }
  | _ => none }
def VecSplitWrongFalsely : Prop := vecSplitRow.holds Try.pinned (OpenSpec.ofChange vecSplitWrong)

/-- 'aviarylaw04.VecTurns': WHATEVER THE INPUT: true; the input reads as it did. -/
def vecTurnsSpec : ChangeSpec := { name := "vecTurns", fn := fun _ => fun
  | [d1, d2, d3] => { results := [.lit (.bool true)], args := [d1, d2, d3] }
  | _ => none }
def vecTurnsRow : OpenClaim := { program := "ytbegoilegjinbaa", sum := "57bb2fcfdd8da2623ef5fe18f552aa63c720e0f5ffcb05ef4487e13a45b41002", func := "aviary/aviarylaw04.VecTurns", spec := "vecTurns", apart := false }
def VecTurnsSaid : Prop := vecTurnsRow.holds Try.pinned (OpenSpec.ofChange vecTurnsSpec)

/-- ITS FALSE NEIGHBOUR: 'it returns false'. Refute it at one input. -/
def vecTurnsWrong : ChangeSpec := { name := "vecTurns", fn := fun _ => fun
  | [d1, d2, d3] => { results := [.lit (.bool false)], args := [d1, d2, d3] }
  | _ => none }
def VecTurnsWrongFalsely : Prop := vecTurnsRow.holds Try.pinned (OpenSpec.ofChange vecTurnsWrong)

/-- 'aviarylaw04.VecScaled': WHATEVER THE INPUT: true; the input reads as it did. -/
def vecScaledSpec : ChangeSpec := { name := "vecScaled", fn := fun _ => fun
  | [d] => { results := [.lit (.bool true)], args := [d] }
  | _ => none }
def vecScaledRow : OpenClaim := { program := "ytbegoilegjinbaa", sum := "57bb2fcfdd8da2623ef5fe18f552aa63c720e0f5ffcb05ef4487e13a45b41002", func := "aviary/aviarylaw04.VecScaled", spec := "vecScaled", apart := false }
def VecScaledSaid : Prop := vecScaledRow.holds Try.pinned (OpenSpec.ofChange vecScaledSpec)

/-- ITS FALSE NEIGHBOUR: 'it returns false'. Refute it at one input. -/
def vecScaledWrong : ChangeSpec := { name := "vecScaled", fn := fun _ => fun
  | [d] => { results := [.lit (.bool false)], args := [d] }
  | _ => none }
def VecScaledWrongFalsely : Prop := vecScaledRow.holds Try.pinned (OpenSpec.ofChange vecScaledWrong)

/- THE SECOND FORM. 'bulk': how many values and letters a reading holds, each counted each time it is reached (what is shared counts as often as it is met; a slice's spare places count too). A statement '..UptoSaid' is the law's where the arguments, and the package variables that the reading takes, are together of bulk at most 1048576: NARROWER than '..Said'. Prove '..Said' where nothing that the law and all that it calls make is longer than what came in: it says more and counts as full. Else prove '..UptoSaid'. A law counts once. -/
mutual
def uptoBulk {H : Type} : DataW H → Nat
  | .lit (.string bytes) => bytes.length + 1
  | .lit _ => 1
  | .nil => 1
  | .ptr d => uptoBulk d + 1
  | .slice elems spare => uptoBulkAll elems + uptoBulkAll spare + 1
  | .agg parts => uptoBulkAll parts + 1
  | .iface _ d => uptoBulk d + 1
  | .map entries => uptoBulkEntries entries + 1
  | .held _ => 1
def uptoBulkAll {H : Type} : List (DataW H) → Nat
  | [] => 0
  | d :: r => uptoBulk d + uptoBulkAll r
def uptoBulkEntries {H : Type} : List (Lit × DataW H) → Nat
  | [] => 0
  | x :: r => uptoBulkEntry x + uptoBulkEntries r
def uptoBulkEntry {H : Type} : Lit × DataW H → Nat
  | (.string bytes, d) => bytes.length + uptoBulk d + 1
  | (_, d) => uptoBulk d + 1
 end
def uptoSmall : (H : Type) → List (DataW H) → Bool := fun _ ds => decide (uptoBulkAll ds ≤ 1048576)
def OpenSpec.upto (s : _root_.Go.ChangeSpec) : _root_.Go.OpenSpec := { _root_.Go.OpenSpec.ofChange s with cond := some uptoSmall }

/-- 'aviarylaw04.VecSums', WHERE WHAT IT READS IS OF BULK AT MOST 1048576: true; the input reads as it did. -/
def vecSumsUptoRow : OpenClaim := { program := "ytbegoilegjinbaa", sum := "57bb2fcfdd8da2623ef5fe18f552aa63c720e0f5ffcb05ef4487e13a45b41002", func := "aviary/aviarylaw04.VecSums", spec := "vecSums", apart := false, narrowed := true }
def VecSumsUptoSaid : Prop := vecSumsUptoRow.holds Try.pinned (OpenSpec.upto vecSumsSpec)

/-- 'aviarylaw04.VecDots', WHERE WHAT IT READS IS OF BULK AT MOST 1048576: true; the input reads as it did. -/
def vecDotsUptoRow : OpenClaim := { program := "ytbegoilegjinbaa", sum := "57bb2fcfdd8da2623ef5fe18f552aa63c720e0f5ffcb05ef4487e13a45b41002", func := "aviary/aviarylaw04.VecDots", spec := "vecDots", apart := false, narrowed := true }
def VecDotsUptoSaid : Prop := vecDotsUptoRow.holds Try.pinned (OpenSpec.upto vecDotsSpec)

/-- 'aviarylaw04.VecMats', WHERE WHAT IT READS IS OF BULK AT MOST 1048576: true; the input reads as it did. -/
def vecMatsUptoRow : OpenClaim := { program := "ytbegoilegjinbaa", sum := "57bb2fcfdd8da2623ef5fe18f552aa63c720e0f5ffcb05ef4487e13a45b41002", func := "aviary/aviarylaw04.VecMats", spec := "vecMats", apart := false, narrowed := true }
def VecMatsUptoSaid : Prop := vecMatsUptoRow.holds Try.pinned (OpenSpec.upto vecMatsSpec)

/-- 'aviarylaw04.VecRows', WHERE WHAT IT READS IS OF BULK AT MOST 1048576: true; the input reads as it did. -/
def vecRowsUptoRow : OpenClaim := { program := "ytbegoilegjinbaa", sum := "57bb2fcfdd8da2623ef5fe18f552aa63c720e0f5ffcb05ef4487e13a45b41002", func := "aviary/aviarylaw04.VecRows", spec := "vecRows", apart := false, narrowed := true }
def VecRowsUptoSaid : Prop := vecRowsUptoRow.holds Try.pinned (OpenSpec.upto vecRowsSpec)

/-- 'aviarylaw04.VecNought', WHERE WHAT IT READS IS OF BULK AT MOST 1048576: true; the input reads as it did. -/
def vecNoughtUptoRow : OpenClaim := { program := "ytbegoilegjinbaa", sum := "57bb2fcfdd8da2623ef5fe18f552aa63c720e0f5ffcb05ef4487e13a45b41002", func := "aviary/aviarylaw04.VecNought", spec := "vecNought", apart := false, narrowed := true }
def VecNoughtUptoSaid : Prop := vecNoughtUptoRow.holds Try.pinned (OpenSpec.upto vecNoughtSpec)

/-- 'aviarylaw04.VecSplit', WHERE WHAT IT READS IS OF BULK AT MOST 1048576: true; the input reads as it did. -/
def vecSplitUptoRow : OpenClaim := { program := "ytbegoilegjinbaa", sum := "57bb2fcfdd8da2623ef5fe18f552aa63c720e0f5ffcb05ef4487e13a45b41002", func := "aviary/aviarylaw04.VecSplit", spec := "vecSplit", apart := false, narrowed := true }
def VecSplitUptoSaid : Prop := vecSplitUptoRow.holds Try.pinned (OpenSpec.upto vecSplitSpec)

/-- 'aviarylaw04.VecTurns', WHERE WHAT IT READS IS OF BULK AT MOST 1048576: true; the input reads as it did. -/
def vecTurnsUptoRow : OpenClaim := { program := "ytbegoilegjinbaa", sum := "57bb2fcfdd8da2623ef5fe18f552aa63c720e0f5ffcb05ef4487e13a45b41002", func := "aviary/aviarylaw04.VecTurns", spec := "vecTurns", apart := false, narrowed := true }
def VecTurnsUptoSaid : Prop := vecTurnsUptoRow.holds Try.pinned (OpenSpec.upto vecTurnsSpec)

/-- 'aviarylaw04.VecScaled', WHERE WHAT IT READS IS OF BULK AT MOST 1048576: true; the input reads as it did. -/
def vecScaledUptoRow : OpenClaim := { program := "ytbegoilegjinbaa", sum := "57bb2fcfdd8da2623ef5fe18f552aa63c720e0f5ffcb05ef4487e13a45b41002", func := "aviary/aviarylaw04.VecScaled", spec := "vecScaled", apart := false, narrowed := true }
def VecScaledUptoSaid : Prop := vecScaledUptoRow.holds Try.pinned (OpenSpec.upto vecScaledSpec)

end Rows
end Go.Proofs.Ytbegoilegjinbaa
