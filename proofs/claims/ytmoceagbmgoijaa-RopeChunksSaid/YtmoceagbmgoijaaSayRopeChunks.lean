/- A part of a law as a program wrote it (wip/myprint.py, over the print of the kit): a function, what its call does, or the row of a law; Lean checks it. -/
import Derived.Test.YtmoceagbmgoijaaPLGx24
import Derived.Test.YtmoceagbmgoijaaOpen
set_option linter.unusedVariables false
namespace Go.Proofs.Ytmoceagbmgoijaa.ropeChunks
open Go.RowKit Go.Proofs.Ytmoceagbmgoijaa.PLG Go.Proofs.YtmoceagbmgoijaaW.PrintWords Go.Proofs.YtmoceagbmgoijaaW.PrintLast
/-- THE PURE STATEMENT of RopeChunks -/
def Pure : Prop := ∀ (a0 : ByteArray) (a1 : ByteArray) (a2 : Int), (a0.size ≤ 140737488351232) → (a1.size ≤ 140737488351232) → ((Lit.int .u8 a2).wf = true) → emendatelaw01_RopeChunks.f a0 a1 a2 = some true
end Go.Proofs.Ytmoceagbmgoijaa.ropeChunks
