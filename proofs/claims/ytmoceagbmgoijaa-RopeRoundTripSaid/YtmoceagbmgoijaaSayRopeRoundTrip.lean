/- A part of a law as a program wrote it (wip/myprint.py, over the print of the kit): a function, what its call does, or the row of a law; Lean checks it. -/
import Derived.Test.YtmoceagbmgoijaaPLAx24
import Derived.Test.YtmoceagbmgoijaaOpen
set_option linter.unusedVariables false
namespace Go.Proofs.Ytmoceagbmgoijaa.ropeRoundTrip
open Go.RowKit Go.Proofs.Ytmoceagbmgoijaa.PLA Go.Proofs.YtmoceagbmgoijaaW.PrintWords Go.Proofs.YtmoceagbmgoijaaW.PrintLast
/-- THE PURE STATEMENT of RopeRoundTrip -/
def Pure : Prop := ∀ (a0 : ByteArray), (a0.size ≤ 140737488351232) → emendatelaw01_RopeRoundTrip.f a0 = some true
end Go.Proofs.Ytmoceagbmgoijaa.ropeRoundTrip
