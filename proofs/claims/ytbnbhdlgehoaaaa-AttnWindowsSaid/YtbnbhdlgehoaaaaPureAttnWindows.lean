/- The first place that is seen is that of the reference, for any place and any window. No condition. -/
import Derived.Test.YtbnbhdlgehoaaaaPAttnWindowsx1
set_option linter.unusedVariables false
set_option linter.unusedSimpArgs false
namespace Go.Proofs.Ytbnbhdlgehoaaaa.Pure
open Go Go.RowKit Go.Proofs.Ytbnbhdlgehoaaaa.PAttnWindows Go.Proofs.YtbnbhdlgehoaaaaW.PrintWords Go.Proofs.YtbnbhdlgehoaaaaW.PrintLast 
theorem AttnWindows : aviarylaw15_AttnWindows.Pure := by
  intro a b _ _
  have e : aviaryref15_Visible.f a b = attn_Visible.f a b := rfl
  unfold aviarylaw15_AttnWindows.f
  rw [e]
  unfold attn_Visible.f
  (repeat' split) <;> simp

end Go.Proofs.Ytbnbhdlgehoaaaa.Pure
