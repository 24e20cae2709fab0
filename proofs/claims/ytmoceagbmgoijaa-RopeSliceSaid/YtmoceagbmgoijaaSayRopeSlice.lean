/- A part of a law as a program wrote it (wip/myprint.py, over the print of the kit): a function, what its call does, or the row of a law; Lean checks it. -/
import Derived.Test.YtmoceagbmgoijaaPLBx24
import Derived.Test.YtmoceagbmgoijaaOpen
set_option linter.unusedVariables false
namespace Go.Proofs.Ytmoceagbmgoijaa.ropeSlice
open Go.RowKit Go.Proofs.Ytmoceagbmgoijaa.PLB Go.Proofs.YtmoceagbmgoijaaW.PrintWords Go.Proofs.YtmoceagbmgoijaaW.PrintLast
/-- THE PURE STATEMENT of RopeSlice -/
def Pure : Prop := ∀ (a0 : ByteArray) (a1 : Int) (a2 : Int), (a0.size ≤ 140737488351232) → ((Lit.int .i64 a1).wf = true) → ((Lit.int .i64 a2).wf = true) → emendatelaw01_RopeSlice.f a0 a1 a2 = some true
end Go.Proofs.Ytmoceagbmgoijaa.ropeSlice
