/-
  No cell of these rows narrows 'for every input' (looked for: loops, veiled, ifaces, maps, wideKeys, modest, calm, conditions, laid).
  DERIVED. THE GIVEN ROWS OF THIS SEAT. 7 by the template 'for every input the law returns true; each argument reads behind the call as it read before'; 0 by the template 'total and deterministic' (their statements: YtfcchiocjefeeaaTotals.lean).
  GIVEN WITH THE SEED: the statements are not yours to turn. If you find one false, say at which input.
  Laid BY PROGRAM, IN A SANDBOX (cutbox-rows.mjs): the forced cells as the released guide's own fill.sh prints them over the translation 8afc7da1db9c0de7… (all of the seat's roots in one cut). By AI agents, Wed Nov 11 2026. No macro, syntax, notation, axiom, sorry.
-/
import Derived.Test.YtfcchiocjefeeaaChecked
import GoSem.Claim
import GoSem.ClaimJoined
import GoSem.ClaimMapViews
import Derived.JoinedTies
import Derived.KernelRfl
namespace Go.Proofs.Ytfcchiocjefeeaa
/- THE CELL 'sum', in the pinned program and in every row, IS THE sha256 OF THE DUMP (.gsa) THAT YtfcchiocjefeeaaProg.lean LOADS. Nothing in Lean hashes anything: it is a label: what it is worth is what the hold of that sum in a sandbox is worth. -/
noncomputable def Try.pinned : Pinned := { name := "ytfcchiocjefeeaa", sum := "8afc7da1db9c0de7f0881166431b5dca70ea54075fb8008de0bd39d0702d680e", checked := Try.checked }
namespace Rows
def none {H : Type} : Left H := { results := [], args := [] }

/-- 'aviarylaw03.CurvePowers': WHATEVER THE INPUT: true; the input reads as it did. -/
def curvePowersSpec : ChangeSpec := { name := "curvePowers", fn := fun _ => fun
  | [d] => { results := [.lit (.bool true)], args := [d] }
  | _ => none }
def curvePowersRow : OpenClaim := { program := "ytfcchiocjefeeaa", sum := "8afc7da1db9c0de7f0881166431b5dca70ea54075fb8008de0bd39d0702d680e", func := "aviary/aviarylaw03.CurvePowers", spec := "curvePowers", apart := false }
def CurvePowersSaid : Prop := curvePowersRow.holds Try.pinned (OpenSpec.ofChange curvePowersSpec)

/-- ITS FALSE NEIGHBOUR: 'it returns false'. Refute it at one input. -/
def curvePowersWrong : ChangeSpec := { name := "curvePowers", fn := fun _ => fun
  | [d] => { results := [.lit (.bool false)], args := [d] }
  | _ => none }
def CurvePowersWrongFalsely : Prop := curvePowersRow.holds Try.pinned (OpenSpec.ofChange curvePowersWrong)

/-- 'aviarylaw03.CurveSigs': WHATEVER THE INPUT: true; the input reads as it did. -/
def curveSigsSpec : ChangeSpec := { name := "curveSigs", fn := fun _ => fun
  | [d1, d2] => { results := [.lit (.bool true)], args := [d1, d2] }
  | _ => none }
def curveSigsRow : OpenClaim := { program := "ytfcchiocjefeeaa", sum := "8afc7da1db9c0de7f0881166431b5dca70ea54075fb8008de0bd39d0702d680e", func := "aviary/aviarylaw03.CurveSigs", spec := "curveSigs", recurses := true, apart := false }
def CurveSigsSaid : Prop := curveSigsRow.holds Try.pinned (OpenSpec.ofChange curveSigsSpec)

/-- ITS FALSE NEIGHBOUR: 'it returns false'. Refute it at one input. -/
def curveSigsWrong : ChangeSpec := { name := "curveSigs", fn := fun _ => fun
  | [d1, d2] => { results := [.lit (.bool false)], args := [d1, d2] }
  | _ => none }
def CurveSigsWrongFalsely : Prop := curveSigsRow.holds Try.pinned (OpenSpec.ofChange curveSigsWrong)

/-- 'aviarylaw03.CurveOrder': WHATEVER THE INPUT: true; the input reads as it did. -/
def curveOrderSpec : ChangeSpec := { name := "curveOrder", fn := fun _ => fun
  | [d1, d2] => { results := [.lit (.bool true)], args := [d1, d2] }
  | _ => none }
def curveOrderRow : OpenClaim := { program := "ytfcchiocjefeeaa", sum := "8afc7da1db9c0de7f0881166431b5dca70ea54075fb8008de0bd39d0702d680e", func := "aviary/aviarylaw03.CurveOrder", spec := "curveOrder", recurses := true, apart := false }
def CurveOrderSaid : Prop := curveOrderRow.holds Try.pinned (OpenSpec.ofChange curveOrderSpec)

/-- ITS FALSE NEIGHBOUR: 'it returns false'. Refute it at one input. -/
def curveOrderWrong : ChangeSpec := { name := "curveOrder", fn := fun _ => fun
  | [d1, d2] => { results := [.lit (.bool false)], args := [d1, d2] }
  | _ => none }
def CurveOrderWrongFalsely : Prop := curveOrderRow.holds Try.pinned (OpenSpec.ofChange curveOrderWrong)

/-- 'aviarylaw03.CurveHalves': WHATEVER THE INPUT: true; the input reads as it did. -/
def curveHalvesSpec : ChangeSpec := { name := "curveHalves", fn := fun _ => fun
  | [d] => { results := [.lit (.bool true)], args := [d] }
  | _ => none }
def curveHalvesRow : OpenClaim := { program := "ytfcchiocjefeeaa", sum := "8afc7da1db9c0de7f0881166431b5dca70ea54075fb8008de0bd39d0702d680e", func := "aviary/aviarylaw03.CurveHalves", spec := "curveHalves", recurses := true, apart := false }
def CurveHalvesSaid : Prop := curveHalvesRow.holds Try.pinned (OpenSpec.ofChange curveHalvesSpec)

/-- ITS FALSE NEIGHBOUR: 'it returns false'. Refute it at one input. -/
def curveHalvesWrong : ChangeSpec := { name := "curveHalves", fn := fun _ => fun
  | [d] => { results := [.lit (.bool false)], args := [d] }
  | _ => none }
def CurveHalvesWrongFalsely : Prop := curveHalvesRow.holds Try.pinned (OpenSpec.ofChange curveHalvesWrong)

/-- 'aviarylaw03.CurveRoots': WHATEVER THE INPUT: true; the input reads as it did. -/
def curveRootsSpec : ChangeSpec := { name := "curveRoots", fn := fun _ => fun
  | [d] => { results := [.lit (.bool true)], args := [d] }
  | _ => none }
def curveRootsRow : OpenClaim := { program := "ytfcchiocjefeeaa", sum := "8afc7da1db9c0de7f0881166431b5dca70ea54075fb8008de0bd39d0702d680e", func := "aviary/aviarylaw03.CurveRoots", spec := "curveRoots", recurses := true, apart := false }
def CurveRootsSaid : Prop := curveRootsRow.holds Try.pinned (OpenSpec.ofChange curveRootsSpec)

/-- ITS FALSE NEIGHBOUR: 'it returns false'. Refute it at one input. -/
def curveRootsWrong : ChangeSpec := { name := "curveRoots", fn := fun _ => fun
  | [d] => { results := [.lit (.bool false)], args := [d] }
  | _ => none }
def CurveRootsWrongFalsely : Prop := curveRootsRow.holds Try.pinned (OpenSpec.ofChange curveRootsWrong)

/-- 'aviarylaw03.CurveTurns': WHATEVER THE INPUT: true; the input reads as it did. -/
def curveTurnsSpec : ChangeSpec := { name := "curveTurns", fn := fun _ => fun
  | [d] => { results := [.lit (.bool true)], args := [d] }
  | _ => none }
def curveTurnsRow : OpenClaim := { program := "ytfcchiocjefeeaa", sum := "8afc7da1db9c0de7f0881166431b5dca70ea54075fb8008de0bd39d0702d680e", func := "aviary/aviarylaw03.CurveTurns", spec := "curveTurns", recurses := true, apart := false }
def CurveTurnsSaid : Prop := curveTurnsRow.holds Try.pinned (OpenSpec.ofChange curveTurnsSpec)

/-- ITS FALSE NEIGHBOUR: 'it returns false'. Refute it at one input. -/
def curveTurnsWrong : ChangeSpec := { name := "curveTurns", fn := fun _ => fun
  | [d] => { results := [.lit (.bool false)], args := [d] }
  | _ => none }
def CurveTurnsWrongFalsely : Prop := curveTurnsRow.holds Try.pinned (OpenSpec.ofChange curveTurnsWrong)

/-- 'aviarylaw03.CurveSilus': WHATEVER THE INPUT: true; the input reads as it did. -/
def curveSilusSpec : ChangeSpec := { name := "curveSilus", fn := fun _ => fun
  | [d] => { results := [.lit (.bool true)], args := [d] }
  | _ => none }
def curveSilusRow : OpenClaim := { program := "ytfcchiocjefeeaa", sum := "8afc7da1db9c0de7f0881166431b5dca70ea54075fb8008de0bd39d0702d680e", func := "aviary/aviarylaw03.CurveSilus", spec := "curveSilus", recurses := true, apart := false }
def CurveSilusSaid : Prop := curveSilusRow.holds Try.pinned (OpenSpec.ofChange curveSilusSpec)

/-- ITS FALSE NEIGHBOUR: 'it returns false'. Refute it at one input. -/
def curveSilusWrong : ChangeSpec := { name := "curveSilus", fn := fun _ => fun
  | [d] => { results := [.lit (.bool false)], args := [d] }
  | _ => none }
def CurveSilusWrongFalsely : Prop := curveSilusRow.holds Try.pinned (OpenSpec.ofChange curveSilusWrong)

/- THE SECOND FORM. 'bulk': how many values and letters a reading holds, each counted each time it is reached (what is shared counts as often as it is met; a slice's spare places count too). A statement '..UptoSaid' is the law's where the arguments, and the package variables that the reading takes, are together of bulk at most 1048576: NARROWER than '..Said'. Prove '..Said' where nothing that the law and all that it calls make is longer than what came in: it says more and counts as full. Else prove '..UptoSaid'. A law counts once. -/
mutual
def uptoBulk {H : Type} : DataW H → Nat
  | .lit (.string bytes) => bytes.length + 1
  | .lit _ => 1
  | .nil => 1
  | .ptr d => uptoBulk d + 1
  | .slice elems spare => uptoBulkAll elems + uptoBulkAll spare + 1
  | .agg parts => uptoBulkAll parts + 1
  | .iface _ d => uptoBulk d + 1
  | .map entries => uptoBulkEntries entries + 1
  | .held _ => 1
def uptoBulkAll {H : Type} : List (DataW H) → Nat
  | [] => 0
  | d :: r => uptoBulk d + uptoBulkAll r
def uptoBulkEntries {H : Type} : List (Lit × DataW H) → Nat
  | [] => 0
  | x :: r => uptoBulkEntry x + uptoBulkEntries r
def uptoBulkEntry {H : Type} : Lit × DataW H → Nat
  | (.string bytes, d) => bytes.length + uptoBulk d + 1
  | (_, d) => uptoBulk d + 1
 end
def uptoSmall : (H : Type) → List (DataW H) → Bool := fun _ ds => decide (uptoBulkAll ds ≤ 1048576)
def OpenSpec.upto (s : _root_.Go.ChangeSpec) : _root_.Go.OpenSpec := { _root_.Go.OpenSpec.ofChange s with cond := some uptoSmall }

/-- 'aviarylaw03.CurvePowers', WHERE WHAT IT READS IS OF BULK AT MOST 1048576: true; the input reads as it did. -/
def curvePowersUptoRow : OpenClaim := { program := "ytfcchiocjefeeaa", sum := "8afc7da1db9c0de7f0881166431b5dca70ea54075fb8008de0bd39d0702d680e", func := "aviary/aviarylaw03.CurvePowers", spec := "curvePowers", apart := false, narrowed := true }
def CurvePowersUptoSaid : Prop := curvePowersUptoRow.holds Try.pinned (OpenSpec.upto curvePowersSpec)

/-- 'aviarylaw03.CurveSigs', WHERE WHAT IT READS IS OF BULK AT MOST 1048576: true; the input reads as it did. -/
def curveSigsUptoRow : OpenClaim := { program := "ytfcchiocjefeeaa", sum := "8afc7da1db9c0de7f0881166431b5dca70ea54075fb8008de0bd39d0702d680e", func := "aviary/aviarylaw03.CurveSigs", spec := "curveSigs", recurses := true, apart := false, narrowed := true }
def CurveSigsUptoSaid : Prop := curveSigsUptoRow.holds Try.pinned (OpenSpec.upto curveSigsSpec)

/-- 'aviarylaw03.CurveOrder', WHERE WHAT IT READS IS OF BULK AT MOST 1048576: true; the input reads as it did. -/
def curveOrderUptoRow : OpenClaim := { program := "ytfcchiocjefeeaa", sum := "8afc7da1db9c0de7f0881166431b5dca70ea54075fb8008de0bd39d0702d680e", func := "aviary/aviarylaw03.CurveOrder", spec := "curveOrder", recurses := true, apart := false, narrowed := true }
def CurveOrderUptoSaid : Prop := curveOrderUptoRow.holds Try.pinned (OpenSpec.upto curveOrderSpec)

/-- 'aviarylaw03.CurveHalves', WHERE WHAT IT READS IS OF BULK AT MOST 1048576: true; the input reads as it did. -/
def curveHalvesUptoRow : OpenClaim := { program := "ytfcchiocjefeeaa", sum := "8afc7da1db9c0de7f0881166431b5dca70ea54075fb8008de0bd39d0702d680e", func := "aviary/aviarylaw03.CurveHalves", spec := "curveHalves", recurses := true, apart := false, narrowed := true }
def CurveHalvesUptoSaid : Prop := curveHalvesUptoRow.holds Try.pinned (OpenSpec.upto curveHalvesSpec)

/-- 'aviarylaw03.CurveRoots', WHERE WHAT IT READS IS OF BULK AT MOST 1048576: true; the input reads as it did. -/
def curveRootsUptoRow : OpenClaim := { program := "ytfcchiocjefeeaa", sum := "8afc7da1db9c0de7f0881166431b5dca70ea54075fb8008de0bd39d0702d680e", func := "aviary/aviarylaw03.CurveRoots", spec := "curveRoots", recurses := true, apart := false, narrowed := true }
def CurveRootsUptoSaid : Prop := curveRootsUptoRow.holds Try.pinned (OpenSpec.upto curveRootsSpec)

/-- 'aviarylaw03.CurveTurns', WHERE WHAT IT READS IS OF BULK AT MOST 1048576: true; the input reads as it did. -/
def curveTurnsUptoRow : OpenClaim := { program := "ytfcchiocjefeeaa", sum := "8afc7da1db9c0de7f0881166431b5dca70ea54075fb8008de0bd39d0702d680e", func := "aviary/aviarylaw03.CurveTurns", spec := "curveTurns", recurses := true, apart := false, narrowed := true }
def CurveTurnsUptoSaid : Prop := curveTurnsUptoRow.holds Try.pinned (OpenSpec.upto curveTurnsSpec)

/-- 'aviarylaw03.CurveSilus', WHERE WHAT IT READS IS OF BULK AT MOST 1048576: true; the input reads as it did. -/
def curveSilusUptoRow : OpenClaim := { program := "ytfcchiocjefeeaa", sum := "8afc7da1db9c0de7f0881166431b5dca70ea54075fb8008de0bd39d0702d680e", func := "aviary/aviarylaw03.CurveSilus", spec := "curveSilus", recurses := true, apart := false, narrowed := true }
def CurveSilusUptoSaid : Prop := curveSilusUptoRow.holds Try.pinned (OpenSpec.upto curveSilusSpec)

end Rows
end Go.Proofs.Ytfcchiocjefeeaa
