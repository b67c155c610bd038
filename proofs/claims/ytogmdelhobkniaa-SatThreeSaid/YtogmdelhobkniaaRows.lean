/-
  No cell of these rows narrows 'for every input' (looked for: loops, veiled, ifaces, maps, wideKeys, modest, calm, conditions, laid).
  DERIVED. THE GIVEN ROWS OF THIS SEAT. 6 by the template 'for every input the law returns true; each argument reads behind the call as it read before'; 0 by the template 'total and deterministic' (their statements: YtogmdelhobkniaaTotals.lean).
  GIVEN WITH THE SEED: the statements are not yours to turn. If you find one false, say at which input.
  Laid BY PROGRAM, IN A SANDBOX (cutbox-rows.mjs): the forced cells as the released guide's own fill.sh prints them over the translation ff199fb669e62db5… (all of the seat's roots in one cut). By AI agents, Wed Nov 11 2026. No macro, syntax, notation, axiom, sorry.
-/
import Derived.Test.YtogmdelhobkniaaChecked
import GoSem.Claim
import GoSem.ClaimJoined
import GoSem.ClaimMapViews
import Derived.JoinedTies
import Derived.KernelRfl
namespace Go.Proofs.Ytogmdelhobkniaa
/- THE CELL 'sum', in the pinned program and in every row, IS THE sha256 OF THE DUMP (.gsa) THAT YtogmdelhobkniaaProg.lean LOADS. Nothing in Lean hashes anything: it is a label: what it is worth is what the hold of that sum in a sandbox is worth. -/
noncomputable def Try.pinned : Pinned := { name := "ytogmdelhobkniaa", sum := "ff199fb669e62db53108bb16ab029414c7c7a36810a8b247077530ec8d566780", checked := Try.checked }
namespace Rows
def none {H : Type} : Left H := { results := [], args := [] }

/-- 'aviarylaw01.SatSums': WHATEVER THE INPUT: true; the input reads as it did. -/
def satSumsSpec : ChangeSpec := { name := "satSums", fn := fun _ => fun
  | [d1, d2] => { results := [.lit (.bool true)], args := [d1, d2] }
  | _ => none }
def satSumsRow : OpenClaim := { program := "ytogmdelhobkniaa", sum := "ff199fb669e62db53108bb16ab029414c7c7a36810a8b247077530ec8d566780", func := "aviary/aviarylaw01.SatSums", spec := "satSums", apart := false }
def SatSumsSaid : Prop := satSumsRow.holds Try.pinned (OpenSpec.ofChange satSumsSpec)

/-- ITS FALSE NEIGHBOUR: 'it returns false'. Refute it at one input. -/
def satSumsWrong : ChangeSpec := { name := "satSums", fn := fun _ => fun
  | [d1, d2] => { results := [.lit (.bool false)], args := [d1, d2] }
  | _ => none }
def SatSumsWrongFalsely : Prop := satSumsRow.holds Try.pinned (OpenSpec.ofChange satSumsWrong)

/-- 'aviarylaw01.SatShifts': WHATEVER THE INPUT: true; the input reads as it did. -/
def satShiftsSpec : ChangeSpec := { name := "satShifts", fn := fun _ => fun
  | [d1, d2] => { results := [.lit (.bool true)], args := [d1, d2] }
  | _ => none }
def satShiftsRow : OpenClaim := { program := "ytogmdelhobkniaa", sum := "ff199fb669e62db53108bb16ab029414c7c7a36810a8b247077530ec8d566780", func := "aviary/aviarylaw01.SatShifts", spec := "satShifts", apart := false }
def SatShiftsSaid : Prop := satShiftsRow.holds Try.pinned (OpenSpec.ofChange satShiftsSpec)

/-- ITS FALSE NEIGHBOUR: 'it returns false'. Refute it at one input. -/
def satShiftsWrong : ChangeSpec := { name := "satShifts", fn := fun _ => fun
  | [d1, d2] => { results := [.lit (.bool false)], args := [d1, d2] }
  | _ => none }
def SatShiftsWrongFalsely : Prop := satShiftsRow.holds Try.pinned (OpenSpec.ofChange satShiftsWrong)

/-- 'aviarylaw01.SatTimes': WHATEVER THE INPUT: true; the input reads as it did. -/
def satTimesSpec : ChangeSpec := { name := "satTimes", fn := fun _ => fun
  | [d1, d2] => { results := [.lit (.bool true)], args := [d1, d2] }
  | _ => none }
def satTimesRow : OpenClaim := { program := "ytogmdelhobkniaa", sum := "ff199fb669e62db53108bb16ab029414c7c7a36810a8b247077530ec8d566780", func := "aviary/aviarylaw01.SatTimes", spec := "satTimes", apart := false }
def SatTimesSaid : Prop := satTimesRow.holds Try.pinned (OpenSpec.ofChange satTimesSpec)

/-- ITS FALSE NEIGHBOUR: 'it returns false'. Refute it at one input. -/
def satTimesWrong : ChangeSpec := { name := "satTimes", fn := fun _ => fun
  | [d1, d2] => { results := [.lit (.bool false)], args := [d1, d2] }
  | _ => none }
def SatTimesWrongFalsely : Prop := satTimesRow.holds Try.pinned (OpenSpec.ofChange satTimesWrong)

/-- 'aviarylaw01.SatOrder': WHATEVER THE INPUT: true; the input reads as it did. -/
def satOrderSpec : ChangeSpec := { name := "satOrder", fn := fun _ => fun
  | [d1, d2, d3] => { results := [.lit (.bool true)], args := [d1, d2, d3] }
  | _ => none }
def satOrderRow : OpenClaim := { program := "ytogmdelhobkniaa", sum := "ff199fb669e62db53108bb16ab029414c7c7a36810a8b247077530ec8d566780", func := "aviary/aviarylaw01.SatOrder", spec := "satOrder", apart := false }
def SatOrderSaid : Prop := satOrderRow.holds Try.pinned (OpenSpec.ofChange satOrderSpec)

/-- ITS FALSE NEIGHBOUR: 'it returns false'. Refute it at one input. -/
def satOrderWrong : ChangeSpec := { name := "satOrder", fn := fun _ => fun
  | [d1, d2, d3] => { results := [.lit (.bool false)], args := [d1, d2, d3] }
  | _ => none }
def SatOrderWrongFalsely : Prop := satOrderRow.holds Try.pinned (OpenSpec.ofChange satOrderWrong)

/-- 'aviarylaw01.SatSigns': WHATEVER THE INPUT: true; the input reads as it did. -/
def satSignsSpec : ChangeSpec := { name := "satSigns", fn := fun _ => fun
  | [d1, d2] => { results := [.lit (.bool true)], args := [d1, d2] }
  | _ => none }
def satSignsRow : OpenClaim := { program := "ytogmdelhobkniaa", sum := "ff199fb669e62db53108bb16ab029414c7c7a36810a8b247077530ec8d566780", func := "aviary/aviarylaw01.SatSigns", spec := "satSigns", apart := false }
def SatSignsSaid : Prop := satSignsRow.holds Try.pinned (OpenSpec.ofChange satSignsSpec)

/-- ITS FALSE NEIGHBOUR: 'it returns false'. Refute it at one input. -/
def satSignsWrong : ChangeSpec := { name := "satSigns", fn := fun _ => fun
  | [d1, d2] => { results := [.lit (.bool false)], args := [d1, d2] }
  | _ => none }
def SatSignsWrongFalsely : Prop := satSignsRow.holds Try.pinned (OpenSpec.ofChange satSignsWrong)

/-- 'aviarylaw01.SatThree': WHATEVER THE INPUT: true; the input reads as it did. -/
def satThreeSpec : ChangeSpec := { name := "satThree", fn := fun _ => fun
  | [d1, d2, d3] => { results := [.lit (.bool true)], args := [d1, d2, d3] }
  | _ => none }
def satThreeRow : OpenClaim := { program := "ytogmdelhobkniaa", sum := "ff199fb669e62db53108bb16ab029414c7c7a36810a8b247077530ec8d566780", func := "aviary/aviarylaw01.SatThree", spec := "satThree", apart := false }
def SatThreeSaid : Prop := satThreeRow.holds Try.pinned (OpenSpec.ofChange satThreeSpec)

/-- ITS FALSE NEIGHBOUR: 'it returns false'. Refute it at one input. -/
def satThreeWrong : ChangeSpec := { name := "satThree", fn := fun _ => fun
  | [d1, d2, d3] => { results := [.lit (.bool false)], args := [d1, d2, d3] }
  | _ => none }
def SatThreeWrongFalsely : Prop := satThreeRow.holds Try.pinned (OpenSpec.ofChange satThreeWrong)

/- THE SECOND FORM. 'bulk': how many values and letters a reading holds, each counted each time it is reached (what is shared counts as often as it is met; a slice's spare places count too). A statement '..UptoSaid' is the law's where the arguments, and the package variables that the reading takes, are together of bulk at most 1048576: NARROWER than '..Said'. Prove '..Said' where nothing that the law and all that it calls make is longer than what came in: it says more and counts as full. Else prove '..UptoSaid'. A law counts once. -/
mutual
def uptoBulk {H : Type} : DataW H → Nat
  | .lit (.string bytes) => bytes.length + 1
  | .lit _ => 1
  | .nil => 1
  | .ptr d => uptoBulk d + 1
  | .slice elems spare => uptoBulkAll elems + uptoBulkAll spare + 1
  | .agg parts => uptoBulkAll parts + 1
  | .iface _ d => uptoBulk d + 1
  | .map entries => uptoBulkEntries entries + 1
  | .held _ => 1
def uptoBulkAll {H : Type} : List (DataW H) → Nat
  | [] => 0
  | d :: r => uptoBulk d + uptoBulkAll r
def uptoBulkEntries {H : Type} : List (Lit × DataW H) → Nat
  | [] => 0
  | x :: r => uptoBulkEntry x + uptoBulkEntries r
def uptoBulkEntry {H : Type} : Lit × DataW H → Nat
  | (.string bytes, d) => bytes.length + uptoBulk d + 1
  | (_, d) => uptoBulk d + 1
 end
def uptoSmall : (H : Type) → List (DataW H) → Bool := fun _ ds => decide (uptoBulkAll ds ≤ 1048576)
def OpenSpec.upto (s : _root_.Go.ChangeSpec) : _root_.Go.OpenSpec := { _root_.Go.OpenSpec.ofChange s with cond := some uptoSmall }

/-- 'aviarylaw01.SatSums', WHERE WHAT IT READS IS OF BULK AT MOST 1048576: true; the input reads as it did. -/
def satSumsUptoRow : OpenClaim := { program := "ytogmdelhobkniaa", sum := "ff199fb669e62db53108bb16ab029414c7c7a36810a8b247077530ec8d566780", func := "aviary/aviarylaw01.SatSums", spec := "satSums", apart := false, narrowed := true }
def SatSumsUptoSaid : Prop := satSumsUptoRow.holds Try.pinned (OpenSpec.upto satSumsSpec)

/-- 'aviarylaw01.SatShifts', WHERE WHAT IT READS IS OF BULK AT MOST 1048576: true; the input reads as it did. -/
def satShiftsUptoRow : OpenClaim := { program := "ytogmdelhobkniaa", sum := "ff199fb669e62db53108bb16ab029414c7c7a36810a8b247077530ec8d566780", func := "aviary/aviarylaw01.SatShifts", spec := "satShifts", apart := false, narrowed := true }
def SatShiftsUptoSaid : Prop := satShiftsUptoRow.holds Try.pinned (OpenSpec.upto satShiftsSpec)

/-- 'aviarylaw01.SatTimes', WHERE WHAT IT READS IS OF BULK AT MOST 1048576: true; the input reads as it did. -/
def satTimesUptoRow : OpenClaim := { program := "ytogmdelhobkniaa", sum := "ff199fb669e62db53108bb16ab029414c7c7a36810a8b247077530ec8d566780", func := "aviary/aviarylaw01.SatTimes", spec := "satTimes", apart := false, narrowed := true }
def SatTimesUptoSaid : Prop := satTimesUptoRow.holds Try.pinned (OpenSpec.upto satTimesSpec)

/-- 'aviarylaw01.SatOrder', WHERE WHAT IT READS IS OF BULK AT MOST 1048576: true; the input reads as it did. -/
def satOrderUptoRow : OpenClaim := { program := "ytogmdelhobkniaa", sum := "ff199fb669e62db53108bb16ab029414c7c7a36810a8b247077530ec8d566780", func := "aviary/aviarylaw01.SatOrder", spec := "satOrder", apart := false, narrowed := true }
def SatOrderUptoSaid : Prop := satOrderUptoRow.holds Try.pinned (OpenSpec.upto satOrderSpec)

/-- 'aviarylaw01.SatSigns', WHERE WHAT IT READS IS OF BULK AT MOST 1048576: true; the input reads as it did. -/
def satSignsUptoRow : OpenClaim := { program := "ytogmdelhobkniaa", sum := "ff199fb669e62db53108bb16ab029414c7c7a36810a8b247077530ec8d566780", func := "aviary/aviarylaw01.SatSigns", spec := "satSigns", apart := false, narrowed := true }
def SatSignsUptoSaid : Prop := satSignsUptoRow.holds Try.pinned (OpenSpec.upto satSignsSpec)

/-- 'aviarylaw01.SatThree', WHERE WHAT IT READS IS OF BULK AT MOST 1048576: true; the input reads as it did. -/
def satThreeUptoRow : OpenClaim := { program := "ytogmdelhobkniaa", sum := "ff199fb669e62db53108bb16ab029414c7c7a36810a8b247077530ec8d566780", func := "aviary/aviarylaw01.SatThree", spec := "satThree", apart := false, narrowed := true }
def SatThreeUptoSaid : Prop := satThreeUptoRow.holds Try.pinned (OpenSpec.upto satThreeSpec)

end Rows
end Go.Proofs.Ytogmdelhobkniaa
