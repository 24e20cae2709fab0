/- The pure statement of RopeGrows: nothing is left to show: the walk shows it. -/
import Derived.Test.YtmoceagbmgoijaaSayRopeGrows
set_option linter.unusedVariables false
namespace Go.Proofs.Ytmoceagbmgoijaa.ropeGrows
open Go.RowKit Go.Proofs.Ytmoceagbmgoijaa.PLF Go.Proofs.YtmoceagbmgoijaaW.PrintWords Go.Proofs.YtmoceagbmgoijaaW.PrintLast

theorem pure : Pure := by
  unfold Pure
  intros
  rfl

end Go.Proofs.Ytmoceagbmgoijaa.ropeGrows
