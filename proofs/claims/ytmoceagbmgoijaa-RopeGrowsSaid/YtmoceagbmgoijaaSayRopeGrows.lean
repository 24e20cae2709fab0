/- A part of a law as a program wrote it (wip/myprint.py, over the print of the kit): a function, what its call does, or the row of a law; Lean checks it. -/
import Derived.Test.YtmoceagbmgoijaaPLFx23
import Derived.Test.YtmoceagbmgoijaaOpen
set_option linter.unusedVariables false
namespace Go.Proofs.Ytmoceagbmgoijaa.ropeGrows
open Go.RowKit Go.Proofs.Ytmoceagbmgoijaa.PLF Go.Proofs.YtmoceagbmgoijaaW.PrintWords Go.Proofs.YtmoceagbmgoijaaW.PrintLast
/-- THE PURE STATEMENT of RopeGrows -/
def Pure : Prop := ∀ (l0 : List ByteArray) (a1 : Bool), ((l0.length * 16 ≤ 140737488351232 ∧ l0.length ≤ maxLen ∧ ∀ y ∈ l0, y.size ≤ 140737488351232)) → emendatelaw01_RopeGrows.f l0 a1 = some true
theorem opa0 (w : World) : Open.Opens Try.prog w 47 (Kd.slice 9 Kd.string) (fun x => (x.length * 16 ≤ 140737488351232 ∧ x.length ≤ maxLen ∧ ∀ y ∈ x, y.size ≤ 140737488351232)) := fun _ => Open.of_slice (B := 16) Try.underlying47 (by kernel_rfl) (by kernel_rfl) (fun _ _ => Open.of_string Try.underlying9)
end Go.Proofs.Ytmoceagbmgoijaa.ropeGrows
