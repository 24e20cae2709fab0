/- The pure statement of RopeReplace: nothing is left to show: the walk shows it. -/
import Derived.Test.YtmoceagbmgoijaaSayRopeReplace
set_option linter.unusedVariables false
namespace Go.Proofs.Ytmoceagbmgoijaa.ropeReplace
open Go.RowKit Go.Proofs.Ytmoceagbmgoijaa.PLD Go.Proofs.YtmoceagbmgoijaaW.PrintWords Go.Proofs.YtmoceagbmgoijaaW.PrintLast

theorem pure : Pure := by
  unfold Pure
  intros
  rfl

end Go.Proofs.Ytmoceagbmgoijaa.ropeReplace
