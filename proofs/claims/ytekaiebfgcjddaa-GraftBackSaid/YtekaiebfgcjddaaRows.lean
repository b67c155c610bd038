/-
  No cell of these rows narrows 'for every input' (looked for: loops, veiled, ifaces, maps, wideKeys, modest, calm, conditions, laid).
  DERIVED. THE GIVEN ROWS OF THIS SEAT. 7 by the template 'for every input the law returns true; each argument reads behind the call as it read before'; 0 by the template 'total and deterministic' (their statements: YtekaiebfgcjddaaTotals.lean).
  GIVEN WITH THE SEED: the statements are not yours to turn. If you find one false, say at which input.
  Laid BY PROGRAM, IN A SANDBOX (cutbox-rows.mjs): the forced cells as the released guide's own fill.sh prints them over the translation 273cb1fa7f008345… (all of the seat's roots in one cut). By AI agents, Wed Nov 11 2026. No macro, syntax, notation, axiom, sorry.
-/
import Derived.Test.YtekaiebfgcjddaaChecked
import GoSem.Claim
import GoSem.ClaimJoined
import GoSem.ClaimMapViews
import Derived.JoinedTies
import Derived.KernelRfl
namespace Go.Proofs.Ytekaiebfgcjddaa
/- THE CELL 'sum', in the pinned program and in every row, IS THE sha256 OF THE DUMP (.gsa) THAT YtekaiebfgcjddaaProg.lean LOADS. Nothing in Lean hashes anything: it is a label: what it is worth is what the hold of that sum in a sandbox is worth. -/
noncomputable def Try.pinned : Pinned := { name := "ytekaiebfgcjddaa", sum := "273cb1fa7f0083454534a1ae0395b07d1403db23330d92437b76913983a2f026", checked := Try.checked }
namespace Rows
def none {H : Type} : Left H := { results := [], args := [] }

/-- 'aviarylaw10.GraftShapes': WHATEVER THE INPUT: true; the input reads as it did. -/
def graftShapesSpec : ChangeSpec := { name := "graftShapes", fn := fun _ => fun
  | [d1, d2, d3, d4] => { results := [.lit (.bool true)], args := [d1, d2, d3, d4] }
  | _ => none }
def graftShapesRow : OpenClaim := { program := "ytekaiebfgcjddaa", sum := "273cb1fa7f0083454534a1ae0395b07d1403db23330d92437b76913983a2f026", func := "aviary/aviarylaw10.GraftShapes", spec := "graftShapes", apart := false }
def GraftShapesSaid : Prop := graftShapesRow.holds Try.pinned (OpenSpec.ofChange graftShapesSpec)

/-- ITS FALSE NEIGHBOUR: 'it returns false'. Refute it at one input. -/
def graftShapesWrong : ChangeSpec := { name := "graftShapes", fn := fun _ => fun
  | [d1, d2, d3, d4] => { results := [.lit (.bool false)], args := [d1, d2, d3, d4] }
  | _ => none }
def GraftShapesWrongFalsely : Prop := graftShapesRow.holds Try.pinned (OpenSpec.ofChange graftShapesWrong)

/-- 'aviarylaw10.GraftApplies': WHATEVER THE INPUT: true; the input reads as it did. -/
def graftAppliesSpec : ChangeSpec := { name := "graftApplies", fn := fun _ => fun
  | [d1, d2, d3, d4, d5] => { results := [.lit (.bool true)], args := [d1, d2, d3, d4, d5] }
  | _ => none }
def graftAppliesRow : OpenClaim := { program := "ytekaiebfgcjddaa", sum := "273cb1fa7f0083454534a1ae0395b07d1403db23330d92437b76913983a2f026", func := "aviary/aviarylaw10.GraftApplies", spec := "graftApplies", apart := false }
def GraftAppliesSaid : Prop := graftAppliesRow.holds Try.pinned (OpenSpec.ofChange graftAppliesSpec)

/-- ITS FALSE NEIGHBOUR: 'it returns false'. Refute it at one input. -/
def graftAppliesWrong : ChangeSpec := { name := "graftApplies", fn := fun _ => fun
  | [d1, d2, d3, d4, d5] => { results := [.lit (.bool false)], args := [d1, d2, d3, d4, d5] }
  | _ => none }
def GraftAppliesWrongFalsely : Prop := graftAppliesRow.holds Try.pinned (OpenSpec.ofChange graftAppliesWrong)

/-- 'aviarylaw10.GraftChecks': WHATEVER THE INPUT: true; the input reads as it did. -/
def graftChecksSpec : ChangeSpec := { name := "graftChecks", fn := fun _ => fun
  | [d1, d2] => { results := [.lit (.bool true)], args := [d1, d2] }
  | _ => none }
def graftChecksRow : OpenClaim := { program := "ytekaiebfgcjddaa", sum := "273cb1fa7f0083454534a1ae0395b07d1403db23330d92437b76913983a2f026", func := "aviary/aviarylaw10.GraftChecks", spec := "graftChecks", apart := false }
def GraftChecksSaid : Prop := graftChecksRow.holds Try.pinned (OpenSpec.ofChange graftChecksSpec)

/-- ITS FALSE NEIGHBOUR: 'it returns false'. Refute it at one input. -/
def graftChecksWrong : ChangeSpec := { name := "graftChecks", fn := fun _ => fun
  | [d1, d2] => { results := [.lit (.bool false)], args := [d1, d2] }
  | _ => none }
def GraftChecksWrongFalsely : Prop := graftChecksRow.holds Try.pinned (OpenSpec.ofChange graftChecksWrong)

/-- 'aviarylaw10.GraftReads': WHATEVER THE INPUT: true; the input reads as it did. -/
def graftReadsSpec : ChangeSpec := { name := "graftReads", fn := fun _ => fun
  | [d1, d2] => { results := [.lit (.bool true)], args := [d1, d2] }
  | _ => none }
def graftReadsRow : OpenClaim := { program := "ytekaiebfgcjddaa", sum := "273cb1fa7f0083454534a1ae0395b07d1403db23330d92437b76913983a2f026", func := "aviary/aviarylaw10.GraftReads", spec := "graftReads", apart := false }
def GraftReadsSaid : Prop := graftReadsRow.holds Try.pinned (OpenSpec.ofChange graftReadsSpec)

/-- ITS FALSE NEIGHBOUR: 'it returns false'. Refute it at one input. -/
def graftReadsWrong : ChangeSpec := { name := "graftReads", fn := fun _ => fun
  | [d1, d2] => { results := [.lit (.bool false)], args := [d1, d2] }
  | _ => none }
def GraftReadsWrongFalsely : Prop := graftReadsRow.holds Try.pinned (OpenSpec.ofChange graftReadsWrong)

/-- 'aviarylaw10.GraftBack': WHATEVER THE INPUT: true; the input reads as it did. -/
def graftBackSpec : ChangeSpec := { name := "graftBack", fn := fun _ => fun
  | [d1, d2, d3] => { results := [.lit (.bool true)], args := [d1, d2, d3] }
  | _ => none }
def graftBackRow : OpenClaim := { program := "ytekaiebfgcjddaa", sum := "273cb1fa7f0083454534a1ae0395b07d1403db23330d92437b76913983a2f026", func := "aviary/aviarylaw10.GraftBack", spec := "graftBack", apart := false }
def GraftBackSaid : Prop := graftBackRow.holds Try.pinned (OpenSpec.ofChange graftBackSpec)

/-- ITS FALSE NEIGHBOUR: 'it returns false'. Refute it at one input. -/
def graftBackWrong : ChangeSpec := { name := "graftBack", fn := fun _ => fun
  | [d1, d2, d3] => { results := [.lit (.bool false)], args := [d1, d2, d3] }
  | _ => none }
def GraftBackWrongFalsely : Prop := graftBackRow.holds Try.pinned (OpenSpec.ofChange graftBackWrong)

/-- 'aviarylaw10.GraftNothing': WHATEVER THE INPUT: true; the input reads as it did. -/
def graftNothingSpec : ChangeSpec := { name := "graftNothing", fn := fun _ => fun
  | [d1, d2, d3, d4, d5] => { results := [.lit (.bool true)], args := [d1, d2, d3, d4, d5] }
  | _ => none }
def graftNothingRow : OpenClaim := { program := "ytekaiebfgcjddaa", sum := "273cb1fa7f0083454534a1ae0395b07d1403db23330d92437b76913983a2f026", func := "aviary/aviarylaw10.GraftNothing", spec := "graftNothing", apart := false }
def GraftNothingSaid : Prop := graftNothingRow.holds Try.pinned (OpenSpec.ofChange graftNothingSpec)

/-- ITS FALSE NEIGHBOUR: 'it returns false'. Refute it at one input. -/
def graftNothingWrong : ChangeSpec := { name := "graftNothing", fn := fun _ => fun
  | [d1, d2, d3, d4, d5] => { results := [.lit (.bool false)], args := [d1, d2, d3, d4, d5] }
  | _ => none }
def GraftNothingWrongFalsely : Prop := graftNothingRow.holds Try.pinned (OpenSpec.ofChange graftNothingWrong)

/-- 'aviarylaw10.GraftFits': WHATEVER THE INPUT: true; the input reads as it did. -/
def graftFitsSpec : ChangeSpec := { name := "graftFits", fn := fun _ => fun
  | [d1, d2, d3] => { results := [.lit (.bool true)], args := [d1, d2, d3] }
  | _ => none }
def graftFitsRow : OpenClaim := { program := "ytekaiebfgcjddaa", sum := "273cb1fa7f0083454534a1ae0395b07d1403db23330d92437b76913983a2f026", func := "aviary/aviarylaw10.GraftFits", spec := "graftFits", apart := false }
def GraftFitsSaid : Prop := graftFitsRow.holds Try.pinned (OpenSpec.ofChange graftFitsSpec)

/-- ITS FALSE NEIGHBOUR: 'it returns false'. Refute it at one input. -/
def graftFitsWrong : ChangeSpec := { name := "graftFits", fn := fun _ => fun
  | [d1, d2, d3] => { results := [.lit (.bool false)], args := [d1, d2, d3] }
  | _ => none }
def GraftFitsWrongFalsely : Prop := graftFitsRow.holds Try.pinned (OpenSpec.ofChange graftFitsWrong)

/- THE SECOND FORM. 'bulk': how many values and letters a reading holds, each counted each time it is reached (what is shared counts as often as it is met; a slice's spare places count too). A statement '..UptoSaid' is the law's where the arguments, and the package variables that the reading takes, are together of bulk at most 1048576: NARROWER than '..Said'. Prove '..Said' where nothing that the law and all that it calls make is longer than what came in: it says more and counts as full. Else prove '..UptoSaid'. A law counts once. -/
mutual
def uptoBulk {H : Type} : DataW H → Nat
  | .lit (.string bytes) => bytes.length + 1
  | .lit _ => 1
  | .nil => 1
  | .ptr d => uptoBulk d + 1
  | .slice elems spare => uptoBulkAll elems + uptoBulkAll spare + 1
  | .agg parts => uptoBulkAll parts + 1
  | .iface _ d => uptoBulk d + 1
  | .map entries => uptoBulkEntries entries + 1
  | .held _ => 1
def uptoBulkAll {H : Type} : List (DataW H) → Nat
  | [] => 0
  | d :: r => uptoBulk d + uptoBulkAll r
def uptoBulkEntries {H : Type} : List (Lit × DataW H) → Nat
  | [] => 0
  | x :: r => uptoBulkEntry x + uptoBulkEntries r
def uptoBulkEntry {H : Type} : Lit × DataW H → Nat
  | (.string bytes, d) => bytes.length + uptoBulk d + 1
  | (_, d) => uptoBulk d + 1
 end
def uptoSmall : (H : Type) → List (DataW H) → Bool := fun _ ds => decide (uptoBulkAll ds ≤ 1048576)
def OpenSpec.upto (s : _root_.Go.ChangeSpec) : _root_.Go.OpenSpec := { _root_.Go.OpenSpec.ofChange s with cond := some uptoSmall }

/-- 'aviarylaw10.GraftShapes', WHERE WHAT IT READS IS OF BULK AT MOST 1048576: true; the input reads as it did. -/
def graftShapesUptoRow : OpenClaim := { program := "ytekaiebfgcjddaa", sum := "273cb1fa7f0083454534a1ae0395b07d1403db23330d92437b76913983a2f026", func := "aviary/aviarylaw10.GraftShapes", spec := "graftShapes", apart := false, narrowed := true }
def GraftShapesUptoSaid : Prop := graftShapesUptoRow.holds Try.pinned (OpenSpec.upto graftShapesSpec)

/-- 'aviarylaw10.GraftApplies', WHERE WHAT IT READS IS OF BULK AT MOST 1048576: true; the input reads as it did. -/
def graftAppliesUptoRow : OpenClaim := { program := "ytekaiebfgcjddaa", sum := "273cb1fa7f0083454534a1ae0395b07d1403db23330d92437b76913983a2f026", func := "aviary/aviarylaw10.GraftApplies", spec := "graftApplies", apart := false, narrowed := true }
def GraftAppliesUptoSaid : Prop := graftAppliesUptoRow.holds Try.pinned (OpenSpec.upto graftAppliesSpec)

/-- 'aviarylaw10.GraftChecks', WHERE WHAT IT READS IS OF BULK AT MOST 1048576: true; the input reads as it did. -/
def graftChecksUptoRow : OpenClaim := { program := "ytekaiebfgcjddaa", sum := "273cb1fa7f0083454534a1ae0395b07d1403db23330d92437b76913983a2f026", func := "aviary/aviarylaw10.GraftChecks", spec := "graftChecks", apart := false, narrowed := true }
def GraftChecksUptoSaid : Prop := graftChecksUptoRow.holds Try.pinned (OpenSpec.upto graftChecksSpec)

/-- 'aviarylaw10.GraftReads', WHERE WHAT IT READS IS OF BULK AT MOST 1048576: true; the input reads as it did. -/
def graftReadsUptoRow : OpenClaim := { program := "ytekaiebfgcjddaa", sum := "273cb1fa7f0083454534a1ae0395b07d1403db23330d92437b76913983a2f026", func := "aviary/aviarylaw10.GraftReads", spec := "graftReads", apart := false, narrowed := true }
def GraftReadsUptoSaid : Prop := graftReadsUptoRow.holds Try.pinned (OpenSpec.upto graftReadsSpec)

/-- 'aviarylaw10.GraftBack', WHERE WHAT IT READS IS OF BULK AT MOST 1048576: true; the input reads as it did. -/
def graftBackUptoRow : OpenClaim := { program := "ytekaiebfgcjddaa", sum := "273cb1fa7f0083454534a1ae0395b07d1403db23330d92437b76913983a2f026", func := "aviary/aviarylaw10.GraftBack", spec := "graftBack", apart := false, narrowed := true }
def GraftBackUptoSaid : Prop := graftBackUptoRow.holds Try.pinned (OpenSpec.upto graftBackSpec)

/-- 'aviarylaw10.GraftNothing', WHERE WHAT IT READS IS OF BULK AT MOST 1048576: true; the input reads as it did. -/
def graftNothingUptoRow : OpenClaim := { program := "ytekaiebfgcjddaa", sum := "273cb1fa7f0083454534a1ae0395b07d1403db23330d92437b76913983a2f026", func := "aviary/aviarylaw10.GraftNothing", spec := "graftNothing", apart := false, narrowed := true }
def GraftNothingUptoSaid : Prop := graftNothingUptoRow.holds Try.pinned (OpenSpec.upto graftNothingSpec)

/-- 'aviarylaw10.GraftFits', WHERE WHAT IT READS IS OF BULK AT MOST 1048576: true; the input reads as it did. -/
def graftFitsUptoRow : OpenClaim := { program := "ytekaiebfgcjddaa", sum := "273cb1fa7f0083454534a1ae0395b07d1403db23330d92437b76913983a2f026", func := "aviary/aviarylaw10.GraftFits", spec := "graftFits", apart := false, narrowed := true }
def GraftFitsUptoSaid : Prop := graftFitsUptoRow.holds Try.pinned (OpenSpec.upto graftFitsSpec)

end Rows
end Go.Proofs.Ytekaiebfgcjddaa
