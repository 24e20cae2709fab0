/- A part of a law as a program wrote it (wip/myprint.py, over the print of the kit): a function, what its call does, or the row of a law; Lean checks it. -/
import Derived.Test.YtfiefplalpjlpaaPAx22
import Derived.Test.YtfiefplalpjlpaaOpen
set_option linter.unusedVariables false
namespace Go.Proofs.Ytfiefplalpjlpaa.walDecodeMatchesReference
open Go.RowKit Go.Proofs.Ytfiefplalpjlpaa.PA Go.Proofs.YtfiefplalpjlpaaW.PrintWords Go.Proofs.YtfiefplalpjlpaaW.PrintLast
/-- THE PURE STATEMENT of WalDecodeMatchesReference -/
def Pure : Prop := ∀ (a0 : ByteArray), (a0.size ≤ 140737488351232) → ∃ k, emendatelaw51_WalDecodeMatchesReference.f k a0 = some true
end Go.Proofs.Ytfiefplalpjlpaa.walDecodeMatchesReference
