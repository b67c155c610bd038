/-
  No cell of these rows narrows 'for every input' (looked for: loops, veiled, ifaces, maps, wideKeys, modest, calm, conditions, laid).
  DERIVED. THE GIVEN ROWS OF THIS SEAT. 5 by the template 'for every input the law returns true; each argument reads behind the call as it read before'; 0 by the template 'total and deterministic' (their statements: YtnpecffgfanadaaTotals.lean).
  GIVEN WITH THE SEED: the statements are not yours to turn. If you find one false, say at which input.
  Laid BY PROGRAM, IN A SANDBOX (cutbox-rows.mjs): the forced cells as the released guide's own fill.sh prints them over the translation 43282f8075642015… (all of the seat's roots in one cut). By AI agents, Wed Nov 11 2026. No macro, syntax, notation, axiom, sorry.
-/
import Derived.Test.YtnpecffgfanadaaChecked
import GoSem.Claim
import GoSem.ClaimJoined
import GoSem.ClaimMapViews
import Derived.JoinedTies
import Derived.KernelRfl
namespace Go.Proofs.Ytnpecffgfanadaa
/- THE CELL 'sum', in the pinned program and in every row, IS THE sha256 OF THE DUMP (.gsa) THAT YtnpecffgfanadaaProg.lean LOADS. Nothing in Lean hashes anything: it is a label: what it is worth is what the hold of that sum in a sandbox is worth. -/
noncomputable def Try.pinned : Pinned := { name := "ytnpecffgfanadaa", sum := "43282f80756420155bb099013890745b51b69bf1ae31eecbb6b36eeec7280da1", checked := Try.checked }
namespace Rows
def none {H : Type} : Left H := { results := [], args := [] }

/-- 'aviarylaw06.TurnPairs': WHATEVER THE INPUT: true; the input reads as it did. -/
def turnPairsSpec : ChangeSpec := { name := "turnPairs", fn := fun _ => fun
  | [d1, d2] => { results := [.lit (.bool true)], args := [d1, d2] }
  | _ => none }
def turnPairsRow : OpenClaim := { program := "ytnpecffgfanadaa", sum := "43282f80756420155bb099013890745b51b69bf1ae31eecbb6b36eeec7280da1", func := "aviary/aviarylaw06.TurnPairs", spec := "turnPairs", recurses := true, apart := false }
def TurnPairsSaid : Prop := turnPairsRow.holds Try.pinned (OpenSpec.ofChange turnPairsSpec)

/-- ITS FALSE NEIGHBOUR: 'it returns false'. Refute it at one input. -/
def turnPairsWrong : ChangeSpec := { name := "turnPairs", fn := fun _ => fun
  | [d1, d2] => { results := [.lit (.bool false)], args := [d1, d2] }
  | _ => none }
def TurnPairsWrongFalsely : Prop := turnPairsRow.holds Try.pinned (OpenSpec.ofChange turnPairsWrong)

/-- 'aviarylaw06.TurnHeads': WHATEVER THE INPUT: true; the input reads as it did. -/
def turnHeadsSpec : ChangeSpec := { name := "turnHeads", fn := fun _ => fun
  | [d1, d2, d3] => { results := [.lit (.bool true)], args := [d1, d2, d3] }
  | _ => none }
def turnHeadsRow : OpenClaim := { program := "ytnpecffgfanadaa", sum := "43282f80756420155bb099013890745b51b69bf1ae31eecbb6b36eeec7280da1", func := "aviary/aviarylaw06.TurnHeads", spec := "turnHeads", recurses := true, apart := false }
def TurnHeadsSaid : Prop := turnHeadsRow.holds Try.pinned (OpenSpec.ofChange turnHeadsSpec)

/-- ITS FALSE NEIGHBOUR: 'it returns false'. Refute it at one input. -/
def turnHeadsWrong : ChangeSpec := { name := "turnHeads", fn := fun _ => fun
  | [d1, d2, d3] => { results := [.lit (.bool false)], args := [d1, d2, d3] }
  | _ => none }
def TurnHeadsWrongFalsely : Prop := turnHeadsRow.holds Try.pinned (OpenSpec.ofChange turnHeadsWrong)

/-- 'aviarylaw06.TurnRound': WHATEVER THE INPUT: true; the input reads as it did. -/
def turnRoundSpec : ChangeSpec := { name := "turnRound", fn := fun _ => fun
  | [d1, d2, d3] => { results := [.lit (.bool true)], args := [d1, d2, d3] }
  | _ => none }
def turnRoundRow : OpenClaim := { program := "ytnpecffgfanadaa", sum := "43282f80756420155bb099013890745b51b69bf1ae31eecbb6b36eeec7280da1", func := "aviary/aviarylaw06.TurnRound", spec := "turnRound", recurses := true, apart := false }
def TurnRoundSaid : Prop := turnRoundRow.holds Try.pinned (OpenSpec.ofChange turnRoundSpec)

/-- ITS FALSE NEIGHBOUR: 'it returns false'. Refute it at one input. -/
def turnRoundWrong : ChangeSpec := { name := "turnRound", fn := fun _ => fun
  | [d1, d2, d3] => { results := [.lit (.bool false)], args := [d1, d2, d3] }
  | _ => none }
def TurnRoundWrongFalsely : Prop := turnRoundRow.holds Try.pinned (OpenSpec.ofChange turnRoundWrong)

/-- 'aviarylaw06.TurnApart': WHATEVER THE INPUT: true; the input reads as it did. -/
def turnApartSpec : ChangeSpec := { name := "turnApart", fn := fun _ => fun
  | [d1, d2, d3] => { results := [.lit (.bool true)], args := [d1, d2, d3] }
  | _ => none }
def turnApartRow : OpenClaim := { program := "ytnpecffgfanadaa", sum := "43282f80756420155bb099013890745b51b69bf1ae31eecbb6b36eeec7280da1", func := "aviary/aviarylaw06.TurnApart", spec := "turnApart", recurses := true, apart := false }
def TurnApartSaid : Prop := turnApartRow.holds Try.pinned (OpenSpec.ofChange turnApartSpec)

/-- ITS FALSE NEIGHBOUR: 'it returns false'. Refute it at one input. -/
def turnApartWrong : ChangeSpec := { name := "turnApart", fn := fun _ => fun
  | [d1, d2, d3] => { results := [.lit (.bool false)], args := [d1, d2, d3] }
  | _ => none }
def TurnApartWrongFalsely : Prop := turnApartRow.holds Try.pinned (OpenSpec.ofChange turnApartWrong)

/-- 'aviarylaw06.TurnQuarter': WHATEVER THE INPUT: true; the input reads as it did. -/
def turnQuarterSpec : ChangeSpec := { name := "turnQuarter", fn := fun _ => fun
  | [d1, d2, d3] => { results := [.lit (.bool true)], args := [d1, d2, d3] }
  | _ => none }
def turnQuarterRow : OpenClaim := { program := "ytnpecffgfanadaa", sum := "43282f80756420155bb099013890745b51b69bf1ae31eecbb6b36eeec7280da1", func := "aviary/aviarylaw06.TurnQuarter", spec := "turnQuarter", recurses := true, apart := false }
def TurnQuarterSaid : Prop := turnQuarterRow.holds Try.pinned (OpenSpec.ofChange turnQuarterSpec)

/-- ITS FALSE NEIGHBOUR: 'it returns false'. Refute it at one input. -/
def turnQuarterWrong : ChangeSpec := { name := "turnQuarter", fn := fun _ => fun
  | [d1, d2, d3] => { results := [.lit (.bool false)], args := [d1, d2, d3] }
  | _ => none }
def TurnQuarterWrongFalsely : Prop := turnQuarterRow.holds Try.pinned (OpenSpec.ofChange turnQuarterWrong)

/- THE SECOND FORM. 'bulk': how many values and letters a reading holds, each counted each time it is reached (what is shared counts as often as it is met; a slice's spare places count too). A statement '..UptoSaid' is the law's where the arguments, and the package variables that the reading takes, are together of bulk at most 1048576: NARROWER than '..Said'. Prove '..Said' where nothing that the law and all that it calls make is longer than what came in: it says more and counts as full. Else prove '..UptoSaid'. A law counts once. -/
mutual
def uptoBulk {H : Type} : DataW H → Nat
  | .lit (.string bytes) => bytes.length + 1
  | .lit _ => 1
  | .nil => 1
  | .ptr d => uptoBulk d + 1
  | .slice elems spare => uptoBulkAll elems + uptoBulkAll spare + 1
  | .agg parts => uptoBulkAll parts + 1
  | .iface _ d => uptoBulk d + 1
  | .map entries => uptoBulkEntries entries + 1
  | .held _ => 1
def uptoBulkAll {H : Type} : List (DataW H) → Nat
  | [] => 0
  | d :: r => uptoBulk d + uptoBulkAll r
def uptoBulkEntries {H : Type} : List (Lit × DataW H) → Nat
  | [] => 0
  | x :: r => uptoBulkEntry x + uptoBulkEntries r
def uptoBulkEntry {H : Type} : Lit × DataW H → Nat
  | (.string bytes, d) => bytes.length + uptoBulk d + 1
  | (_, d) => uptoBulk d + 1
 end
def uptoSmall : (H : Type) → List (DataW H) → Bool := fun _ ds => decide (uptoBulkAll ds ≤ 1048576)
def OpenSpec.upto (s : _root_.Go.ChangeSpec) : _root_.Go.OpenSpec := { _root_.Go.OpenSpec.ofChange s with cond := some uptoSmall }

/-- 'aviarylaw06.TurnPairs', WHERE WHAT IT READS IS OF BULK AT MOST 1048576: true; the input reads as it did. -/
def turnPairsUptoRow : OpenClaim := { program := "ytnpecffgfanadaa", sum := "43282f80756420155bb099013890745b51b69bf1ae31eecbb6b36eeec7280da1", func := "aviary/aviarylaw06.TurnPairs", spec := "turnPairs", recurses := true, apart := false, narrowed := true }
def TurnPairsUptoSaid : Prop := turnPairsUptoRow.holds Try.pinned (OpenSpec.upto turnPairsSpec)

/-- 'aviarylaw06.TurnHeads', WHERE WHAT IT READS IS OF BULK AT MOST 1048576: true; the input reads as it did. -/
def turnHeadsUptoRow : OpenClaim := { program := "ytnpecffgfanadaa", sum := "43282f80756420155bb099013890745b51b69bf1ae31eecbb6b36eeec7280da1", func := "aviary/aviarylaw06.TurnHeads", spec := "turnHeads", recurses := true, apart := false, narrowed := true }
def TurnHeadsUptoSaid : Prop := turnHeadsUptoRow.holds Try.pinned (OpenSpec.upto turnHeadsSpec)

/-- 'aviarylaw06.TurnRound', WHERE WHAT IT READS IS OF BULK AT MOST 1048576: true; the input reads as it did. -/
def turnRoundUptoRow : OpenClaim := { program := "ytnpecffgfanadaa", sum := "43282f80756420155bb099013890745b51b69bf1ae31eecbb6b36eeec7280da1", func := "aviary/aviarylaw06.TurnRound", spec := "turnRound", recurses := true, apart := false, narrowed := true }
def TurnRoundUptoSaid : Prop := turnRoundUptoRow.holds Try.pinned (OpenSpec.upto turnRoundSpec)

/-- 'aviarylaw06.TurnApart', WHERE WHAT IT READS IS OF BULK AT MOST 1048576: true; the input reads as it did. -/
def turnApartUptoRow : OpenClaim := { program := "ytnpecffgfanadaa", sum := "43282f80756420155bb099013890745b51b69bf1ae31eecbb6b36eeec7280da1", func := "aviary/aviarylaw06.TurnApart", spec := "turnApart", recurses := true, apart := false, narrowed := true }
def TurnApartUptoSaid : Prop := turnApartUptoRow.holds Try.pinned (OpenSpec.upto turnApartSpec)

/-- 'aviarylaw06.TurnQuarter', WHERE WHAT IT READS IS OF BULK AT MOST 1048576: true; the input reads as it did. -/
def turnQuarterUptoRow : OpenClaim := { program := "ytnpecffgfanadaa", sum := "43282f80756420155bb099013890745b51b69bf1ae31eecbb6b36eeec7280da1", func := "aviary/aviarylaw06.TurnQuarter", spec := "turnQuarter", recurses := true, apart := false, narrowed := true }
def TurnQuarterUptoSaid : Prop := turnQuarterUptoRow.holds Try.pinned (OpenSpec.upto turnQuarterSpec)

end Rows
end Go.Proofs.Ytnpecffgfanadaa
