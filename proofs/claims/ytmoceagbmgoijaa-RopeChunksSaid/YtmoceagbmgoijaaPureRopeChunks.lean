/- The pure statement of RopeChunks: nothing is left to show: the walk shows it. -/
import Derived.Test.YtmoceagbmgoijaaSayRopeChunks
set_option linter.unusedVariables false
namespace Go.Proofs.Ytmoceagbmgoijaa.ropeChunks
open Go.RowKit Go.Proofs.Ytmoceagbmgoijaa.PLG Go.Proofs.YtmoceagbmgoijaaW.PrintWords Go.Proofs.YtmoceagbmgoijaaW.PrintLast

theorem pure : Pure := by
  unfold Pure
  intros
  rfl

end Go.Proofs.Ytmoceagbmgoijaa.ropeChunks
