/- The pure statement of RopeHistory: the walk shows it; what is left is that the texts of the edits are not too large. -/
import Derived.Test.YtmoceagbmgoijaaSayRopeHistory
set_option linter.unusedVariables false
namespace Go.Proofs.Ytmoceagbmgoijaa.ropeHistory
open Go.RowKit Go.Proofs.Ytmoceagbmgoijaa.PLH Go.Proofs.YtmoceagbmgoijaaW.PrintWords Go.Proofs.YtmoceagbmgoijaaW.PrintLast

theorem pure : Pure := by
  unfold Pure
  intro a0 l1 h0 h1
  unfold emendatelaw01_RopeHistory.f
  rw [if_pos]
  intro y hy
  exact (h1.2.2 y hy).2.2

end Go.Proofs.Ytmoceagbmgoijaa.ropeHistory
