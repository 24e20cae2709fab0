/- A part of a law as a program wrote it (wip/myprint.py, over the print of the kit): a function, what its call does, or the row of a law; Lean checks it. -/
import Derived.Test.YtfiefplalpjlpaaPAx27
import Derived.Test.YtfiefplalpjlpaaOpen
set_option linter.unusedVariables false
namespace Go.Proofs.Ytfiefplalpjlpaa.walConcatenation
open Go.RowKit Go.Proofs.Ytfiefplalpjlpaa.PA Go.Proofs.YtfiefplalpjlpaaW.PrintWords Go.Proofs.YtfiefplalpjlpaaW.PrintLast
/-- THE PURE STATEMENT of WalConcatenation -/
def Pure : Prop := ∀ (l0 : List ByteArray) (l1 : List ByteArray), ((l0.length * 16 ≤ 140737488351232 ∧ l0.length ≤ maxLen ∧ ∀ y ∈ l0, y.size ≤ 140737488351232)) → ((l1.length * 16 ≤ 140737488351232 ∧ l1.length ≤ maxLen ∧ ∀ y ∈ l1, y.size ≤ 140737488351232)) → ∃ k, emendatelaw51_WalConcatenation.f k l0 l1 = some true
theorem opa0 (w : World) : Open.Opens Try.prog w 22 (Kd.slice 9 Kd.string) (fun x => (x.length * 16 ≤ 140737488351232 ∧ x.length ≤ maxLen ∧ ∀ y ∈ x, y.size ≤ 140737488351232)) := fun _ => Open.of_slice (B := 16) Try.underlying22 (by kernel_rfl) (by kernel_rfl) (fun _ _ => Open.of_string Try.underlying9)
theorem opa1 (w : World) : Open.Opens Try.prog w 22 (Kd.slice 9 Kd.string) (fun x => (x.length * 16 ≤ 140737488351232 ∧ x.length ≤ maxLen ∧ ∀ y ∈ x, y.size ≤ 140737488351232)) := fun _ => Open.of_slice (B := 16) Try.underlying22 (by kernel_rfl) (by kernel_rfl) (fun _ _ => Open.of_string Try.underlying9)
end Go.Proofs.Ytfiefplalpjlpaa.walConcatenation
