/- The pure statement of RopeSlice: nothing is left to show: the walk shows it. -/
import Derived.Test.YtmoceagbmgoijaaSayRopeSlice
set_option linter.unusedVariables false
namespace Go.Proofs.Ytmoceagbmgoijaa.ropeSlice
open Go.RowKit Go.Proofs.Ytmoceagbmgoijaa.PLB Go.Proofs.YtmoceagbmgoijaaW.PrintWords Go.Proofs.YtmoceagbmgoijaaW.PrintLast

theorem pure : Pure := by
  unfold Pure
  intros
  rfl

end Go.Proofs.Ytmoceagbmgoijaa.ropeSlice
