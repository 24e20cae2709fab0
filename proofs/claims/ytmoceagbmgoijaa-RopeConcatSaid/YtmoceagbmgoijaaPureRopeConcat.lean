/- The pure statement of RopeConcat: nothing is left to show: the walk shows it. -/
import Derived.Test.YtmoceagbmgoijaaSayRopeConcat
set_option linter.unusedVariables false
namespace Go.Proofs.Ytmoceagbmgoijaa.ropeConcat
open Go.RowKit Go.Proofs.Ytmoceagbmgoijaa.PLC Go.Proofs.YtmoceagbmgoijaaW.PrintWords Go.Proofs.YtmoceagbmgoijaaW.PrintLast

theorem pure : Pure := by
  unfold Pure
  intros
  rfl

end Go.Proofs.Ytmoceagbmgoijaa.ropeConcat
