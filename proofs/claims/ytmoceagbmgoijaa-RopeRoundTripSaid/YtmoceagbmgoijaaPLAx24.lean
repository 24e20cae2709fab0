/- A part of a law as a program wrote it (wip/myprint.py, over the print of the kit): a function, what its call does, or the row of a law; Lean checks it. -/
import Derived.Test.YtmoceagbmgoijaaPLAx0
namespace Go.Proofs.Ytmoceagbmgoijaa.PLA
open Go.RowKit Go.Proofs.YtmoceagbmgoijaaW.PrintWords Go.Proofs.YtmoceagbmgoijaaW.PrintLast Go.Proofs.YtmoceagbmgoijaaW.PrintMore
attribute [local go_sem] max2_int min2_int max_two min_two max_three min_three max_four min_four   -- for this text's walks alone
set_option linter.unusedVariables false
set_option linter.unusedSimpArgs false

/-! ### emendatelaw01_RopeRoundTrip: function 3 -/
-- (a text of its own, pasted by myprint.py)
def emendatelaw01_RopeRoundTrip.f (a0 : ByteArray) : Option Bool := some true
theorem emendatelaw01_RopeRoundTrip.calls (a0 : ByteArray) (r : Bool) (w : World)  (h : emendatelaw01_RopeRoundTrip.f a0 = some r) : Calls Try.prog 3 #[.string a0] w fun e w' => e = .returned (.bool r) ∧ Below w.heap.size w w' := by
  cases h
  exact Rop.roundTrip_any a0 w 

end Go.Proofs.Ytmoceagbmgoijaa.PLA
