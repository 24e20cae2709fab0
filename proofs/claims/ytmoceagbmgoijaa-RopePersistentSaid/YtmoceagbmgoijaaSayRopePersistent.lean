/- A part of a law as a program wrote it (wip/myprint.py, over the print of the kit): a function, what its call does, or the row of a law; Lean checks it. -/
import Derived.Test.YtmoceagbmgoijaaPLEx25
import Derived.Test.YtmoceagbmgoijaaOpen
set_option linter.unusedVariables false
namespace Go.Proofs.Ytmoceagbmgoijaa.ropePersistent
open Go.RowKit Go.Proofs.Ytmoceagbmgoijaa.PLE Go.Proofs.YtmoceagbmgoijaaW.PrintWords Go.Proofs.YtmoceagbmgoijaaW.PrintLast
def ok32 (x : S32) : Prop := ((Lit.int .i64 x.f0).wf = true) ∧ ((Lit.int .i64 x.f1).wf = true) ∧ x.f2.size ≤ 140737488351232
/-- THE PURE STATEMENT of RopePersistent -/
def Pure : Prop := ∀ (a0 : ByteArray) (a1_0 : Int) (a1_1 : Int) (a1_2 : ByteArray), (a0.size ≤ 140737488351232) → (ok32 ((⟨a1_0, a1_1, a1_2⟩ : S32))) → emendatelaw01_RopePersistent.f a0 a1_0 a1_1 a1_2 = some true
theorem op32 (w : World) (n : Nat) : Open.OpensN n Try.prog w 32 k32 ok32 := Open.of_fields (g := fun x : S32 => (x.f0, x.f1, x.f2)) (fun p => (⟨p.1, p.2.1, p.2.2⟩ : S32)) (fun _ => rfl) Try.underlying32 (by kernel_rfl) (fun m _ => (Open.fields_cons (by rfl) (by kernel_rfl) (Open.of_int Try.underlying3) (Open.fields_cons (by rfl) (by kernel_rfl) (Open.of_int Try.underlying3) (Open.fields_one (by rfl) (by kernel_rfl) (Open.of_string Try.underlying9)))))
theorem opa1 (w : World) : Open.Opens Try.prog w 32 k32 (fun x => ok32 x) := fun _ => op32 w _
end Go.Proofs.Ytmoceagbmgoijaa.ropePersistent
