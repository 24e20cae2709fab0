/- A part of a law as a program wrote it (wip/myprint.py, over the print of the kit): a function, what its call does, or the row of a law; Lean checks it. -/
import Derived.Test.YthhgfagnallcnaaPAx17
import Derived.Test.YthhgfagnallcnaaOpen
set_option linter.unusedVariables false
namespace Go.Proofs.Ythhgfagnallcnaa.textdiffDiffMatchesReference
open Go.RowKit Go.Proofs.Ythhgfagnallcnaa.PA Go.Proofs.YthhgfagnallcnaaW.PrintWords Go.Proofs.YthhgfagnallcnaaW.PrintLast
/-- THE PURE STATEMENT of TextdiffDiffMatchesReference -/
def Pure : Prop := ∀ (a0 : ByteArray) (a1 : ByteArray), (a0.size ≤ 140737488351232) → (a1.size ≤ 140737488351232) → ∃ k, emendatelaw06_TextdiffDiffMatchesReference.f k a0 a1 = some true
end Go.Proofs.Ythhgfagnallcnaa.textdiffDiffMatchesReference
