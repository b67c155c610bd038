/-
  No cell of these rows narrows 'for every input' (looked for: loops, veiled, ifaces, maps, wideKeys, modest, calm, conditions, laid).
  DERIVED. THE GIVEN ROWS OF THIS SEAT. 6 by the template 'for every input the law returns true; each argument reads behind the call as it read before'; 0 by the template 'total and deterministic' (their statements: YtbnbhdlgehoaaaaTotals.lean).
  GIVEN WITH THE SEED: the statements are not yours to turn. If you find one false, say at which input.
  Laid BY PROGRAM, IN A SANDBOX (cutbox-rows.mjs): the forced cells as the released guide's own fill.sh prints them over the translation 89da7d2ae4e7a32c… (all of the seat's roots in one cut). By AI agents, Wed Nov 11 2026. No macro, syntax, notation, axiom, sorry.
-/
import Derived.Test.YtbnbhdlgehoaaaaChecked
import GoSem.Claim
import GoSem.ClaimJoined
import GoSem.ClaimMapViews
import Derived.JoinedTies
import Derived.KernelRfl
namespace Go.Proofs.Ytbnbhdlgehoaaaa
/- THE CELL 'sum', in the pinned program and in every row, IS THE sha256 OF THE DUMP (.gsa) THAT YtbnbhdlgehoaaaaProg.lean LOADS. Nothing in Lean hashes anything: it is a label: what it is worth is what the hold of that sum in a sandbox is worth. -/
noncomputable def Try.pinned : Pinned := { name := "ytbnbhdlgehoaaaa", sum := "89da7d2ae4e7a32c5aa5aa747c6f07efd69a43e61cb4eda4648b10b51d513ca5", checked := Try.checked }
namespace Rows
def none {H : Type} : Left H := { results := [], args := [] }

/-- 'aviarylaw15.AttnWindows': WHATEVER THE INPUT: true; the input reads as it did. -/
def attnWindowsSpec : ChangeSpec := { name := "attnWindows", fn := fun _ => fun
  | [d1, d2] => { results := [.lit (.bool true)], args := [d1, d2] }
  | _ => none }
def attnWindowsRow : OpenClaim := { program := "ytbnbhdlgehoaaaa", sum := "89da7d2ae4e7a32c5aa5aa747c6f07efd69a43e61cb4eda4648b10b51d513ca5", func := "aviary/aviarylaw15.AttnWindows", spec := "attnWindows", apart := false }
def AttnWindowsSaid : Prop := attnWindowsRow.holds Try.pinned (OpenSpec.ofChange attnWindowsSpec)

/-- ITS FALSE NEIGHBOUR: 'it returns false'. Refute it at one input. -/
def attnWindowsWrong : ChangeSpec := { name := "attnWindows", fn := fun _ => fun
  | [d1, d2] => { results := [.lit (.bool false)], args := [d1, d2] }
  | _ => none }
def AttnWindowsWrongFalsely : Prop := attnWindowsRow.holds Try.pinned (OpenSpec.ofChange attnWindowsWrong)

/-- 'aviarylaw15.AttnBetween': WHATEVER THE INPUT: true; the input reads as it did. -/
def attnBetweenSpec : ChangeSpec := { name := "attnBetween", fn := fun _ => fun
  | [d1, d2, d3] => { results := [.lit (.bool true)], args := [d1, d2, d3] }
  | _ => none }
def attnBetweenRow : OpenClaim := { program := "ytbnbhdlgehoaaaa", sum := "89da7d2ae4e7a32c5aa5aa747c6f07efd69a43e61cb4eda4648b10b51d513ca5", func := "aviary/aviarylaw15.AttnBetween", spec := "attnBetween", apart := false }
def AttnBetweenSaid : Prop := attnBetweenRow.holds Try.pinned (OpenSpec.ofChange attnBetweenSpec)

/-- ITS FALSE NEIGHBOUR: 'it returns false'. Refute it at one input. -/
def attnBetweenWrong : ChangeSpec := { name := "attnBetween", fn := fun _ => fun
  | [d1, d2, d3] => { results := [.lit (.bool false)], args := [d1, d2, d3] }
  | _ => none }
def AttnBetweenWrongFalsely : Prop := attnBetweenRow.holds Try.pinned (OpenSpec.ofChange attnBetweenWrong)

/-- 'aviarylaw15.AttnFar': WHATEVER THE INPUT: true; the input reads as it did. -/
def attnFarSpec : ChangeSpec := { name := "attnFar", fn := fun _ => fun
  | [d1, d2, d3, d4] => { results := [.lit (.bool true)], args := [d1, d2, d3, d4] }
  | _ => none }
def attnFarRow : OpenClaim := { program := "ytbnbhdlgehoaaaa", sum := "89da7d2ae4e7a32c5aa5aa747c6f07efd69a43e61cb4eda4648b10b51d513ca5", func := "aviary/aviarylaw15.AttnFar", spec := "attnFar", apart := false }
def AttnFarSaid : Prop := attnFarRow.holds Try.pinned (OpenSpec.ofChange attnFarSpec)

/-- ITS FALSE NEIGHBOUR: 'it returns false'. Refute it at one input. -/
def attnFarWrong : ChangeSpec := { name := "attnFar", fn := fun _ => fun
  | [d1, d2, d3, d4] => { results := [.lit (.bool false)], args := [d1, d2, d3, d4] }
  | _ => none }
def AttnFarWrongFalsely : Prop := attnFarRow.holds Try.pinned (OpenSpec.ofChange attnFarWrong)

/-- 'aviarylaw15.AttnHeads': WHATEVER THE INPUT: true; the input reads as it did. -/
def attnHeadsSpec : ChangeSpec := { name := "attnHeads", fn := fun _ => fun
  | [d1, d2, d3, d4] => { results := [.lit (.bool true)], args := [d1, d2, d3, d4] }
  | _ => none }
def attnHeadsRow : OpenClaim := { program := "ytbnbhdlgehoaaaa", sum := "89da7d2ae4e7a32c5aa5aa747c6f07efd69a43e61cb4eda4648b10b51d513ca5", func := "aviary/aviarylaw15.AttnHeads", spec := "attnHeads", unfollowed := true, recurses := true, apart := false }
def AttnHeadsSaid : Prop := attnHeadsRow.holds Try.pinned (OpenSpec.ofChange attnHeadsSpec)

/-- ITS FALSE NEIGHBOUR: 'it returns false'. Refute it at one input. -/
def attnHeadsWrong : ChangeSpec := { name := "attnHeads", fn := fun _ => fun
  | [d1, d2, d3, d4] => { results := [.lit (.bool false)], args := [d1, d2, d3, d4] }
  | _ => none }
def AttnHeadsWrongFalsely : Prop := attnHeadsRow.holds Try.pinned (OpenSpec.ofChange attnHeadsWrong)

/-- 'aviarylaw15.AttnOne': WHATEVER THE INPUT: true; the input reads as it did. -/
def attnOneSpec : ChangeSpec := { name := "attnOne", fn := fun _ => fun
  | [d1, d2, d3, d4] => { results := [.lit (.bool true)], args := [d1, d2, d3, d4] }
  | _ => none }
def attnOneRow : OpenClaim := { program := "ytbnbhdlgehoaaaa", sum := "89da7d2ae4e7a32c5aa5aa747c6f07efd69a43e61cb4eda4648b10b51d513ca5", func := "aviary/aviarylaw15.AttnOne", spec := "attnOne", unfollowed := true, recurses := true, apart := false }
def AttnOneSaid : Prop := attnOneRow.holds Try.pinned (OpenSpec.ofChange attnOneSpec)

/-- ITS FALSE NEIGHBOUR: 'it returns false'. Refute it at one input. -/
def attnOneWrong : ChangeSpec := { name := "attnOne", fn := fun _ => fun
  | [d1, d2, d3, d4] => { results := [.lit (.bool false)], args := [d1, d2, d3, d4] }
  | _ => none }
def AttnOneWrongFalsely : Prop := attnOneRow.holds Try.pinned (OpenSpec.ofChange attnOneWrong)

/-- 'aviarylaw15.AttnParts': WHATEVER THE INPUT: true; the input reads as it did. -/
def attnPartsSpec : ChangeSpec := { name := "attnParts", fn := fun _ => fun
  | [d1, d2, d3] => { results := [.lit (.bool true)], args := [d1, d2, d3] }
  | _ => none }
def attnPartsRow : OpenClaim := { program := "ytbnbhdlgehoaaaa", sum := "89da7d2ae4e7a32c5aa5aa747c6f07efd69a43e61cb4eda4648b10b51d513ca5", func := "aviary/aviarylaw15.AttnParts", spec := "attnParts", unfollowed := true, recurses := true, apart := false }
def AttnPartsSaid : Prop := attnPartsRow.holds Try.pinned (OpenSpec.ofChange attnPartsSpec)

/-- ITS FALSE NEIGHBOUR: 'it returns false'. Refute it at one input. -/
def attnPartsWrong : ChangeSpec := { name := "attnParts", fn := fun _ => fun
  | [d1, d2, d3] => { results := [.lit (.bool false)], args := [d1, d2, d3] }
  | _ => none }
def AttnPartsWrongFalsely : Prop := attnPartsRow.holds Try.pinned (OpenSpec.ofChange attnPartsWrong)

/- THE SECOND FORM. 'bulk': how many values and letters a reading holds, each counted each time it is reached (what is shared counts as often as it is met; a slice's spare places count too). A statement '..UptoSaid' is the law's where the arguments, and the package variables that the reading takes, are together of bulk at most 1048576: NARROWER than '..Said'. Prove '..Said' where nothing that the law and all that it calls make is longer than what came in: it says more and counts as full. Else prove '..UptoSaid'. A law counts once. -/
mutual
def uptoBulk {H : Type} : DataW H → Nat
  | .lit (.string bytes) => bytes.length + 1
  | .lit _ => 1
  | .nil => 1
  | .ptr d => uptoBulk d + 1
  | .slice elems spare => uptoBulkAll elems + uptoBulkAll spare + 1
  | .agg parts => uptoBulkAll parts + 1
  | .iface _ d => uptoBulk d + 1
  | .map entries => uptoBulkEntries entries + 1
  | .held _ => 1
def uptoBulkAll {H : Type} : List (DataW H) → Nat
  | [] => 0
  | d :: r => uptoBulk d + uptoBulkAll r
def uptoBulkEntries {H : Type} : List (Lit × DataW H) → Nat
  | [] => 0
  | x :: r => uptoBulkEntry x + uptoBulkEntries r
def uptoBulkEntry {H : Type} : Lit × DataW H → Nat
  | (.string bytes, d) => bytes.length + uptoBulk d + 1
  | (_, d) => uptoBulk d + 1
 end
def uptoSmall : (H : Type) → List (DataW H) → Bool := fun _ ds => decide (uptoBulkAll ds ≤ 1048576)
def OpenSpec.upto (s : _root_.Go.ChangeSpec) : _root_.Go.OpenSpec := { _root_.Go.OpenSpec.ofChange s with cond := some uptoSmall }

/-- 'aviarylaw15.AttnWindows', WHERE WHAT IT READS IS OF BULK AT MOST 1048576: true; the input reads as it did. -/
def attnWindowsUptoRow : OpenClaim := { program := "ytbnbhdlgehoaaaa", sum := "89da7d2ae4e7a32c5aa5aa747c6f07efd69a43e61cb4eda4648b10b51d513ca5", func := "aviary/aviarylaw15.AttnWindows", spec := "attnWindows", apart := false, narrowed := true }
def AttnWindowsUptoSaid : Prop := attnWindowsUptoRow.holds Try.pinned (OpenSpec.upto attnWindowsSpec)

/-- 'aviarylaw15.AttnBetween', WHERE WHAT IT READS IS OF BULK AT MOST 1048576: true; the input reads as it did. -/
def attnBetweenUptoRow : OpenClaim := { program := "ytbnbhdlgehoaaaa", sum := "89da7d2ae4e7a32c5aa5aa747c6f07efd69a43e61cb4eda4648b10b51d513ca5", func := "aviary/aviarylaw15.AttnBetween", spec := "attnBetween", apart := false, narrowed := true }
def AttnBetweenUptoSaid : Prop := attnBetweenUptoRow.holds Try.pinned (OpenSpec.upto attnBetweenSpec)

/-- 'aviarylaw15.AttnFar', WHERE WHAT IT READS IS OF BULK AT MOST 1048576: true; the input reads as it did. -/
def attnFarUptoRow : OpenClaim := { program := "ytbnbhdlgehoaaaa", sum := "89da7d2ae4e7a32c5aa5aa747c6f07efd69a43e61cb4eda4648b10b51d513ca5", func := "aviary/aviarylaw15.AttnFar", spec := "attnFar", apart := false, narrowed := true }
def AttnFarUptoSaid : Prop := attnFarUptoRow.holds Try.pinned (OpenSpec.upto attnFarSpec)

/-- 'aviarylaw15.AttnHeads', WHERE WHAT IT READS IS OF BULK AT MOST 1048576: true; the input reads as it did. -/
def attnHeadsUptoRow : OpenClaim := { program := "ytbnbhdlgehoaaaa", sum := "89da7d2ae4e7a32c5aa5aa747c6f07efd69a43e61cb4eda4648b10b51d513ca5", func := "aviary/aviarylaw15.AttnHeads", spec := "attnHeads", unfollowed := true, recurses := true, apart := false, narrowed := true }
def AttnHeadsUptoSaid : Prop := attnHeadsUptoRow.holds Try.pinned (OpenSpec.upto attnHeadsSpec)

/-- 'aviarylaw15.AttnOne', WHERE WHAT IT READS IS OF BULK AT MOST 1048576: true; the input reads as it did. -/
def attnOneUptoRow : OpenClaim := { program := "ytbnbhdlgehoaaaa", sum := "89da7d2ae4e7a32c5aa5aa747c6f07efd69a43e61cb4eda4648b10b51d513ca5", func := "aviary/aviarylaw15.AttnOne", spec := "attnOne", unfollowed := true, recurses := true, apart := false, narrowed := true }
def AttnOneUptoSaid : Prop := attnOneUptoRow.holds Try.pinned (OpenSpec.upto attnOneSpec)

/-- 'aviarylaw15.AttnParts', WHERE WHAT IT READS IS OF BULK AT MOST 1048576: true; the input reads as it did. -/
def attnPartsUptoRow : OpenClaim := { program := "ytbnbhdlgehoaaaa", sum := "89da7d2ae4e7a32c5aa5aa747c6f07efd69a43e61cb4eda4648b10b51d513ca5", func := "aviary/aviarylaw15.AttnParts", spec := "attnParts", unfollowed := true, recurses := true, apart := false, narrowed := true }
def AttnPartsUptoSaid : Prop := attnPartsUptoRow.holds Try.pinned (OpenSpec.upto attnPartsSpec)

end Rows
end Go.Proofs.Ytbnbhdlgehoaaaa
