/- A part of a law as a program wrote it (wip/myprint.py, over the print of the kit): a function, what its call does, or the row of a law; Lean checks it. -/
import Derived.Test.YtmoceagbmgoijaaPLHx28
import Derived.Test.YtmoceagbmgoijaaOpen
set_option linter.unusedVariables false
namespace Go.Proofs.Ytmoceagbmgoijaa.ropeHistory
open Go.RowKit Go.Proofs.Ytmoceagbmgoijaa.PLH Go.Proofs.YtmoceagbmgoijaaW.PrintWords Go.Proofs.YtmoceagbmgoijaaW.PrintLast
def ok32 (x : S32) : Prop := ((Lit.int .i64 x.f0).wf = true) ∧ ((Lit.int .i64 x.f1).wf = true) ∧ x.f2.size ≤ 140737488351232
/-- THE PURE STATEMENT of RopeHistory -/
def Pure : Prop := ∀ (a0 : ByteArray) (l1 : List (S32)), (a0.size ≤ 140737488351232) → ((l1.length * 32 ≤ 140737488351232 ∧ l1.length ≤ maxLen ∧ ∀ y ∈ l1, ok32 y)) → emendatelaw01_RopeHistory.f a0 l1 = some true
theorem op32 (w : World) (n : Nat) : Open.OpensN n Try.prog w 32 k32 ok32 := Open.of_fields (g := fun x : S32 => (x.f0, x.f1, x.f2)) (fun p => (⟨p.1, p.2.1, p.2.2⟩ : S32)) (fun _ => rfl) Try.underlying32 (by kernel_rfl) (fun m _ => (Open.fields_cons (by rfl) (by kernel_rfl) (Open.of_int Try.underlying3) (Open.fields_cons (by rfl) (by kernel_rfl) (Open.of_int Try.underlying3) (Open.fields_one (by rfl) (by kernel_rfl) (Open.of_string Try.underlying9)))))
theorem opa1 (w : World) : Open.Opens Try.prog w 51 (Kd.slice 32 k32) (fun x => (x.length * 32 ≤ 140737488351232 ∧ x.length ≤ maxLen ∧ ∀ y ∈ x, ok32 y)) := fun _ => Open.of_slice (B := 32) Try.underlying51 (by kernel_rfl) (by kernel_rfl) (fun _ _ => op32 w _)
end Go.Proofs.Ytmoceagbmgoijaa.ropeHistory
