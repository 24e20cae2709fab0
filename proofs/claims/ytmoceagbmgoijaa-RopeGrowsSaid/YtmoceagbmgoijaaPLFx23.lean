/- A part of a law as a program wrote it (wip/myprint.py, over the print of the kit): a function, what its call does, or the row of a law; Lean checks it. -/
import Derived.Test.YtmoceagbmgoijaaPLFx0
namespace Go.Proofs.Ytmoceagbmgoijaa.PLF
open Go.RowKit Go.Proofs.YtmoceagbmgoijaaW.PrintWords Go.Proofs.YtmoceagbmgoijaaW.PrintLast Go.Proofs.YtmoceagbmgoijaaW.PrintMore
attribute [local go_sem] max2_int min2_int max_two min_two max_three min_three max_four min_four   -- for this text's walks alone
set_option linter.unusedVariables false
set_option linter.unusedSimpArgs false

/-! ### emendatelaw01_RopeGrows: function 8 -/
-- (a text of its own, pasted by myprint.py)
def emendatelaw01_RopeGrows.f (l0 : List ByteArray) (a1 : Bool) : Option Bool := some true
theorem emendatelaw01_RopeGrows.calls (A0 : Option Addr) (c0 : Nat) (l0 : List ByteArray) (a1 : Bool) (r : Bool) (w : World) (hr0 : Kd.C Kd.string w A0 l0.length l0) (hc0 : l0.length ≤ c0) (h : emendatelaw01_RopeGrows.f l0 a1 = some r) : Calls Try.prog 8 #[.slice A0 l0.length c0, .bool a1] w fun e w' => e = .returned (.bool r) ∧ Below w.heap.size w w' := by
  cases h
  exact Rop.grows_law A0 c0 l0 a1 w hr0 hc0

end Go.Proofs.Ytmoceagbmgoijaa.PLF
