/- A part of a law as a program wrote it (wip/myprint.py, over the print of the kit): a function, what its call does, or the row of a law; Lean checks it. -/
import Derived.Test.YtmoceagbmgoijaaPLEx0
namespace Go.Proofs.Ytmoceagbmgoijaa.PLE
open Go.RowKit Go.Proofs.YtmoceagbmgoijaaW.PrintWords Go.Proofs.YtmoceagbmgoijaaW.PrintLast Go.Proofs.YtmoceagbmgoijaaW.PrintMore
attribute [local go_sem] max2_int min2_int max_two min_two max_three min_three max_four min_four   -- for this text's walks alone
set_option linter.unusedVariables false
set_option linter.unusedSimpArgs false

/-! ### emendatelaw01_RopePersistent: function 7 -/
-- (a text of its own, pasted by myprint.py)
def emendatelaw01_RopePersistent.f (a0 : ByteArray) (a1_0 : Int) (a1_1 : Int) (a1_2 : ByteArray) : Option Bool := some true
theorem emendatelaw01_RopePersistent.calls (a0 : ByteArray) (a1_0 : Int) (a1_1 : Int) (a1_2 : ByteArray) (r : Bool) (w : World)  (h : emendatelaw01_RopePersistent.f a0 a1_0 a1_1 a1_2 = some r) : Calls Try.prog 7 #[.string a0, .agg #[.int .i64 a1_0, .int .i64 a1_1, .string a1_2]] w fun e w' => e = .returned (.bool r) ∧ Below w.heap.size w w' := by
  cases h
  exact Rop.persist_law a0 a1_0 a1_1 a1_2 w 

end Go.Proofs.Ytmoceagbmgoijaa.PLE
