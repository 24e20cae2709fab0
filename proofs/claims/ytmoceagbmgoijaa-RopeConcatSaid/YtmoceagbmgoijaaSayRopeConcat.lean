/- A part of a law as a program wrote it (wip/myprint.py, over the print of the kit): a function, what its call does, or the row of a law; Lean checks it. -/
import Derived.Test.YtmoceagbmgoijaaPLCx24
import Derived.Test.YtmoceagbmgoijaaOpen
set_option linter.unusedVariables false
namespace Go.Proofs.Ytmoceagbmgoijaa.ropeConcat
open Go.RowKit Go.Proofs.Ytmoceagbmgoijaa.PLC Go.Proofs.YtmoceagbmgoijaaW.PrintWords Go.Proofs.YtmoceagbmgoijaaW.PrintLast
/-- THE PURE STATEMENT of RopeConcat -/
def Pure : Prop := ∀ (a0 : ByteArray) (a1 : ByteArray) (a2 : ByteArray), (a0.size ≤ 140737488351232) → (a1.size ≤ 140737488351232) → (a2.size ≤ 140737488351232) → emendatelaw01_RopeConcat.f a0 a1 a2 = some true
end Go.Proofs.Ytmoceagbmgoijaa.ropeConcat
