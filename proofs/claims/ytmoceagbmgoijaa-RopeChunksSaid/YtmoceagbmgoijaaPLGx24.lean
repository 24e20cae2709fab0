/- A part of a law as a program wrote it (wip/myprint.py, over the print of the kit): a function, what its call does, or the row of a law; Lean checks it. -/
import Derived.Test.YtmoceagbmgoijaaPLGx0
namespace Go.Proofs.Ytmoceagbmgoijaa.PLG
open Go.RowKit Go.Proofs.YtmoceagbmgoijaaW.PrintWords Go.Proofs.YtmoceagbmgoijaaW.PrintLast Go.Proofs.YtmoceagbmgoijaaW.PrintMore
attribute [local go_sem] max2_int min2_int max_two min_two max_three min_three max_four min_four   -- for this text's walks alone
set_option linter.unusedVariables false
set_option linter.unusedSimpArgs false

/-! ### emendatelaw01_RopeChunks: function 10 -/
-- (a text of its own, pasted by myprint.py)
def emendatelaw01_RopeChunks.f (a0 : ByteArray) (a1 : ByteArray) (a2 : Int) : Option Bool := some true
theorem emendatelaw01_RopeChunks.calls (a0 : ByteArray) (a1 : ByteArray) (a2 : Int) (r : Bool) (w : World)  (h : emendatelaw01_RopeChunks.f a0 a1 a2 = some r) : Calls Try.prog 10 #[.string a0, .string a1, .int .u8 a2] w fun e w' => e = .returned (.bool r) ∧ Below w.heap.size w w' := by
  cases h
  exact Rop.chunks_law a0 a1 a2 w 

end Go.Proofs.Ytmoceagbmgoijaa.PLG
