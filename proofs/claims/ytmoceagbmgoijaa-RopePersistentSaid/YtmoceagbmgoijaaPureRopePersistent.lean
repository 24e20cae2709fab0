/- The pure statement of RopePersistent: nothing is left to show: the walk shows it. -/
import Derived.Test.YtmoceagbmgoijaaSayRopePersistent
set_option linter.unusedVariables false
namespace Go.Proofs.Ytmoceagbmgoijaa.ropePersistent
open Go.RowKit Go.Proofs.Ytmoceagbmgoijaa.PLE Go.Proofs.YtmoceagbmgoijaaW.PrintWords Go.Proofs.YtmoceagbmgoijaaW.PrintLast

theorem pure : Pure := by
  unfold Pure
  intros
  rfl

end Go.Proofs.Ytmoceagbmgoijaa.ropePersistent
