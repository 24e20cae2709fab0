/- The pure statement of RopeRoundTrip: nothing is left to show: the walk shows it. -/
import Derived.Test.YtmoceagbmgoijaaSayRopeRoundTrip
set_option linter.unusedVariables false
namespace Go.Proofs.Ytmoceagbmgoijaa.ropeRoundTrip
open Go.RowKit Go.Proofs.Ytmoceagbmgoijaa.PLA Go.Proofs.YtmoceagbmgoijaaW.PrintWords Go.Proofs.YtmoceagbmgoijaaW.PrintLast

theorem pure : Pure := by
  unfold Pure
  intros
  rfl

end Go.Proofs.Ytmoceagbmgoijaa.ropeRoundTrip
