/-
  No cell of these rows narrows 'for every input' (looked for: loops, veiled, ifaces, maps, wideKeys, modest, calm, conditions, laid).
  DERIVED. THE GIVEN ROWS OF THIS SEAT. 6 by the template 'for every input the law returns true; each argument reads behind the call as it read before'; 0 by the template 'total and deterministic' (their statements: YtdlinhegmplgiaaTotals.lean).
  GIVEN WITH THE SEED: the statements are not yours to turn. If you find one false, say at which input.
  Laid BY PROGRAM, IN A SANDBOX (cutbox-rows.mjs): the forced cells as the released guide's own fill.sh prints them over the translation 0835da5b0d31c5da… (all of the seat's roots in one cut). By AI agents, Wed Nov 11 2026. No macro, syntax, notation, axiom, sorry.
-/
import Derived.Test.YtdlinhegmplgiaaChecked
import GoSem.Claim
import GoSem.ClaimJoined
import GoSem.ClaimMapViews
import Derived.JoinedTies
import Derived.KernelRfl
namespace Go.Proofs.Ytdlinhegmplgiaa
/- THE CELL 'sum', in the pinned program and in every row, IS THE sha256 OF THE DUMP (.gsa) THAT YtdlinhegmplgiaaProg.lean LOADS. Nothing in Lean hashes anything: it is a label: what it is worth is what the hold of that sum in a sandbox is worth. -/
noncomputable def Try.pinned : Pinned := { name := "ytdlinhegmplgiaa", sum := "0835da5b0d31c5daffdf41c872b295b360d218690233bbe106abe7623aac6d9c", checked := Try.checked }
namespace Rows
def none {H : Type} : Left H := { results := [], args := [] }

/-- 'aviarylaw09.CkptConfigs': WHATEVER THE INPUT: true; the input reads as it did. -/
def ckptConfigsSpec : ChangeSpec := { name := "ckptConfigs", fn := fun _ => fun
  | [d] => { results := [.lit (.bool true)], args := [d] }
  | _ => none }
def ckptConfigsRow : OpenClaim := { program := "ytdlinhegmplgiaa", sum := "0835da5b0d31c5daffdf41c872b295b360d218690233bbe106abe7623aac6d9c", func := "aviary/aviarylaw09.CkptConfigs", spec := "ckptConfigs", unfollowed := true, recurses := true, apart := false }
def CkptConfigsSaid : Prop := ckptConfigsRow.holds Try.pinned (OpenSpec.ofChange ckptConfigsSpec)

/-- ITS FALSE NEIGHBOUR: 'it returns false'. Refute it at one input. -/
def ckptConfigsWrong : ChangeSpec := { name := "ckptConfigs", fn := fun _ => fun
  | [d] => { results := [.lit (.bool false)], args := [d] }
  | _ => none }
def CkptConfigsWrongFalsely : Prop := ckptConfigsRow.holds Try.pinned (OpenSpec.ofChange ckptConfigsWrong)

/-- 'aviarylaw09.CkptChecks': WHATEVER THE INPUT: true; the input reads as it did. -/
def ckptChecksSpec : ChangeSpec := { name := "ckptChecks", fn := fun _ => fun
  | [d] => { results := [.lit (.bool true)], args := [d] }
  | _ => none }
def ckptChecksRow : OpenClaim := { program := "ytdlinhegmplgiaa", sum := "0835da5b0d31c5daffdf41c872b295b360d218690233bbe106abe7623aac6d9c", func := "aviary/aviarylaw09.CkptChecks", spec := "ckptChecks", inPlace := ["internal/abi.NoEscape"], unfollowed := true, recurses := true, apart := false }
def CkptChecksSaid : Prop := ckptChecksRow.holds Try.pinned (OpenSpec.ofChange ckptChecksSpec)

/-- ITS FALSE NEIGHBOUR: 'it returns false'. Refute it at one input. -/
def ckptChecksWrong : ChangeSpec := { name := "ckptChecks", fn := fun _ => fun
  | [d] => { results := [.lit (.bool false)], args := [d] }
  | _ => none }
def CkptChecksWrongFalsely : Prop := ckptChecksRow.holds Try.pinned (OpenSpec.ofChange ckptChecksWrong)

/-- 'aviarylaw09.CkptReads': WHATEVER THE INPUT: true; the input reads as it did. -/
def ckptReadsSpec : ChangeSpec := { name := "ckptReads", fn := fun _ => fun
  | [d1, d2, d3] => { results := [.lit (.bool true)], args := [d1, d2, d3] }
  | _ => none }
def ckptReadsRow : OpenClaim := { program := "ytdlinhegmplgiaa", sum := "0835da5b0d31c5daffdf41c872b295b360d218690233bbe106abe7623aac6d9c", func := "aviary/aviarylaw09.CkptReads", spec := "ckptReads", unfollowed := true, recurses := true, apart := false }
def CkptReadsSaid : Prop := ckptReadsRow.holds Try.pinned (OpenSpec.ofChange ckptReadsSpec)

/-- ITS FALSE NEIGHBOUR: 'it returns false'. Refute it at one input. -/
def ckptReadsWrong : ChangeSpec := { name := "ckptReads", fn := fun _ => fun
  | [d1, d2, d3] => { results := [.lit (.bool false)], args := [d1, d2, d3] }
  | _ => none }
def CkptReadsWrongFalsely : Prop := ckptReadsRow.holds Try.pinned (OpenSpec.ofChange ckptReadsWrong)

/-- 'aviarylaw09.CkptBack': WHATEVER THE INPUT: true; the input reads as it did. -/
def ckptBackSpec : ChangeSpec := { name := "ckptBack", fn := fun _ => fun
  | [d1, d2] => { results := [.lit (.bool true)], args := [d1, d2] }
  | _ => none }
def ckptBackRow : OpenClaim := { program := "ytdlinhegmplgiaa", sum := "0835da5b0d31c5daffdf41c872b295b360d218690233bbe106abe7623aac6d9c", func := "aviary/aviarylaw09.CkptBack", spec := "ckptBack", inPlace := ["internal/abi.NoEscape"], unfollowed := true, recurses := true, apart := false }
def CkptBackSaid : Prop := ckptBackRow.holds Try.pinned (OpenSpec.ofChange ckptBackSpec)

/-- ITS FALSE NEIGHBOUR: 'it returns false'. Refute it at one input. -/
def ckptBackWrong : ChangeSpec := { name := "ckptBack", fn := fun _ => fun
  | [d1, d2] => { results := [.lit (.bool false)], args := [d1, d2] }
  | _ => none }
def CkptBackWrongFalsely : Prop := ckptBackRow.holds Try.pinned (OpenSpec.ofChange ckptBackWrong)

/-- 'aviarylaw09.CkptShapes': WHATEVER THE INPUT: true; the input reads as it did. -/
def ckptShapesSpec : ChangeSpec := { name := "ckptShapes", fn := fun _ => fun
  | [d1, d2] => { results := [.lit (.bool true)], args := [d1, d2] }
  | _ => none }
def ckptShapesRow : OpenClaim := { program := "ytdlinhegmplgiaa", sum := "0835da5b0d31c5daffdf41c872b295b360d218690233bbe106abe7623aac6d9c", func := "aviary/aviarylaw09.CkptShapes", spec := "ckptShapes", inPlace := ["internal/abi.NoEscape"], unfollowed := true, recurses := true, apart := false }
def CkptShapesSaid : Prop := ckptShapesRow.holds Try.pinned (OpenSpec.ofChange ckptShapesSpec)

/-- ITS FALSE NEIGHBOUR: 'it returns false'. Refute it at one input. -/
def ckptShapesWrong : ChangeSpec := { name := "ckptShapes", fn := fun _ => fun
  | [d1, d2] => { results := [.lit (.bool false)], args := [d1, d2] }
  | _ => none }
def CkptShapesWrongFalsely : Prop := ckptShapesRow.holds Try.pinned (OpenSpec.ofChange ckptShapesWrong)

/-- 'aviarylaw09.CkptChanged': WHATEVER THE INPUT: true; the input reads as it did. -/
def ckptChangedSpec : ChangeSpec := { name := "ckptChanged", fn := fun _ => fun
  | [d1, d2, d3, d4] => { results := [.lit (.bool true)], args := [d1, d2, d3, d4] }
  | _ => none }
def ckptChangedRow : OpenClaim := { program := "ytdlinhegmplgiaa", sum := "0835da5b0d31c5daffdf41c872b295b360d218690233bbe106abe7623aac6d9c", func := "aviary/aviarylaw09.CkptChanged", spec := "ckptChanged", inPlace := ["internal/abi.NoEscape"], unfollowed := true, recurses := true, apart := false }
def CkptChangedSaid : Prop := ckptChangedRow.holds Try.pinned (OpenSpec.ofChange ckptChangedSpec)

/-- ITS FALSE NEIGHBOUR: 'it returns false'. Refute it at one input. -/
def ckptChangedWrong : ChangeSpec := { name := "ckptChanged", fn := fun _ => fun
  | [d1, d2, d3, d4] => { results := [.lit (.bool false)], args := [d1, d2, d3, d4] }
  | _ => none }
def CkptChangedWrongFalsely : Prop := ckptChangedRow.holds Try.pinned (OpenSpec.ofChange ckptChangedWrong)

/- THE SECOND FORM. 'bulk': how many values and letters a reading holds, each counted each time it is reached (what is shared counts as often as it is met; a slice's spare places count too). A statement '..UptoSaid' is the law's where the arguments, and the package variables that the reading takes, are together of bulk at most 1048576: NARROWER than '..Said'. Prove '..Said' where nothing that the law and all that it calls make is longer than what came in: it says more and counts as full. Else prove '..UptoSaid'. A law counts once. -/
mutual
def uptoBulk {H : Type} : DataW H → Nat
  | .lit (.string bytes) => bytes.length + 1
  | .lit _ => 1
  | .nil => 1
  | .ptr d => uptoBulk d + 1
  | .slice elems spare => uptoBulkAll elems + uptoBulkAll spare + 1
  | .agg parts => uptoBulkAll parts + 1
  | .iface _ d => uptoBulk d + 1
  | .map entries => uptoBulkEntries entries + 1
  | .held _ => 1
def uptoBulkAll {H : Type} : List (DataW H) → Nat
  | [] => 0
  | d :: r => uptoBulk d + uptoBulkAll r
def uptoBulkEntries {H : Type} : List (Lit × DataW H) → Nat
  | [] => 0
  | x :: r => uptoBulkEntry x + uptoBulkEntries r
def uptoBulkEntry {H : Type} : Lit × DataW H → Nat
  | (.string bytes, d) => bytes.length + uptoBulk d + 1
  | (_, d) => uptoBulk d + 1
 end
def uptoSmall : (H : Type) → List (DataW H) → Bool := fun _ ds => decide (uptoBulkAll ds ≤ 1048576)
def OpenSpec.upto (s : _root_.Go.ChangeSpec) : _root_.Go.OpenSpec := { _root_.Go.OpenSpec.ofChange s with cond := some uptoSmall }

/-- 'aviarylaw09.CkptConfigs', WHERE WHAT IT READS IS OF BULK AT MOST 1048576: true; the input reads as it did. -/
def ckptConfigsUptoRow : OpenClaim := { program := "ytdlinhegmplgiaa", sum := "0835da5b0d31c5daffdf41c872b295b360d218690233bbe106abe7623aac6d9c", func := "aviary/aviarylaw09.CkptConfigs", spec := "ckptConfigs", unfollowed := true, recurses := true, apart := false, narrowed := true }
def CkptConfigsUptoSaid : Prop := ckptConfigsUptoRow.holds Try.pinned (OpenSpec.upto ckptConfigsSpec)

/-- 'aviarylaw09.CkptChecks', WHERE WHAT IT READS IS OF BULK AT MOST 1048576: true; the input reads as it did. -/
def ckptChecksUptoRow : OpenClaim := { program := "ytdlinhegmplgiaa", sum := "0835da5b0d31c5daffdf41c872b295b360d218690233bbe106abe7623aac6d9c", func := "aviary/aviarylaw09.CkptChecks", spec := "ckptChecks", inPlace := ["internal/abi.NoEscape"], unfollowed := true, recurses := true, apart := false, narrowed := true }
def CkptChecksUptoSaid : Prop := ckptChecksUptoRow.holds Try.pinned (OpenSpec.upto ckptChecksSpec)

/-- 'aviarylaw09.CkptReads', WHERE WHAT IT READS IS OF BULK AT MOST 1048576: true; the input reads as it did. -/
def ckptReadsUptoRow : OpenClaim := { program := "ytdlinhegmplgiaa", sum := "0835da5b0d31c5daffdf41c872b295b360d218690233bbe106abe7623aac6d9c", func := "aviary/aviarylaw09.CkptReads", spec := "ckptReads", unfollowed := true, recurses := true, apart := false, narrowed := true }
def CkptReadsUptoSaid : Prop := ckptReadsUptoRow.holds Try.pinned (OpenSpec.upto ckptReadsSpec)

/-- 'aviarylaw09.CkptBack', WHERE WHAT IT READS IS OF BULK AT MOST 1048576: true; the input reads as it did. -/
def ckptBackUptoRow : OpenClaim := { program := "ytdlinhegmplgiaa", sum := "0835da5b0d31c5daffdf41c872b295b360d218690233bbe106abe7623aac6d9c", func := "aviary/aviarylaw09.CkptBack", spec := "ckptBack", inPlace := ["internal/abi.NoEscape"], unfollowed := true, recurses := true, apart := false, narrowed := true }
def CkptBackUptoSaid : Prop := ckptBackUptoRow.holds Try.pinned (OpenSpec.upto ckptBackSpec)

/-- 'aviarylaw09.CkptShapes', WHERE WHAT IT READS IS OF BULK AT MOST 1048576: true; the input reads as it did. -/
def ckptShapesUptoRow : OpenClaim := { program := "ytdlinhegmplgiaa", sum := "0835da5b0d31c5daffdf41c872b295b360d218690233bbe106abe7623aac6d9c", func := "aviary/aviarylaw09.CkptShapes", spec := "ckptShapes", inPlace := ["internal/abi.NoEscape"], unfollowed := true, recurses := true, apart := false, narrowed := true }
def CkptShapesUptoSaid : Prop := ckptShapesUptoRow.holds Try.pinned (OpenSpec.upto ckptShapesSpec)

/-- 'aviarylaw09.CkptChanged', WHERE WHAT IT READS IS OF BULK AT MOST 1048576: true; the input reads as it did. -/
def ckptChangedUptoRow : OpenClaim := { program := "ytdlinhegmplgiaa", sum := "0835da5b0d31c5daffdf41c872b295b360d218690233bbe106abe7623aac6d9c", func := "aviary/aviarylaw09.CkptChanged", spec := "ckptChanged", inPlace := ["internal/abi.NoEscape"], unfollowed := true, recurses := true, apart := false, narrowed := true }
def CkptChangedUptoSaid : Prop := ckptChangedUptoRow.holds Try.pinned (OpenSpec.upto ckptChangedSpec)

end Rows
end Go.Proofs.Ytdlinhegmplgiaa
