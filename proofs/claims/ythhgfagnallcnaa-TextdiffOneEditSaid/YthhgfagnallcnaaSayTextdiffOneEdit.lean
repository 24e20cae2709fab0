/- A part of a law as a program wrote it (wip/myprint.py, over the print of the kit): a function, what its call does, or the row of a law; Lean checks it. -/
import Derived.Test.YthhgfagnallcnaaPAx24
import Derived.Test.YthhgfagnallcnaaOpen
set_option linter.unusedVariables false
namespace Go.Proofs.Ythhgfagnallcnaa.textdiffOneEdit
open Go.RowKit Go.Proofs.Ythhgfagnallcnaa.PA Go.Proofs.YthhgfagnallcnaaW.PrintWords Go.Proofs.YthhgfagnallcnaaW.PrintLast
def ok30 (x : S30) : Prop := ((Lit.int .i64 x.f0).wf = true) ∧ ((Lit.int .i64 x.f1).wf = true) ∧ x.f2.size ≤ 140737488351232
/-- THE PURE STATEMENT of TextdiffOneEdit -/
def Pure : Prop := ∀ (a0 : ByteArray) (a1_0 : Int) (a1_1 : Int) (a1_2 : ByteArray), (a0.size ≤ 140737488351232) → (ok30 ((⟨a1_0, a1_1, a1_2⟩ : S30))) → ∃ k, emendatelaw06_TextdiffOneEdit.f k a0 a1_0 a1_1 a1_2 = some true
theorem op30 (w : World) (n : Nat) : Open.OpensN n Try.prog w 30 k30 ok30 := Open.of_fields (g := fun x : S30 => (x.f0, x.f1, x.f2)) (fun p => (⟨p.1, p.2.1, p.2.2⟩ : S30)) (fun _ => rfl) Try.underlying30 (by kernel_rfl) (fun m _ => (Open.fields_cons (by rfl) (by kernel_rfl) (Open.of_int Try.underlying3) (Open.fields_cons (by rfl) (by kernel_rfl) (Open.of_int Try.underlying3) (Open.fields_one (by rfl) (by kernel_rfl) (Open.of_string Try.underlying9)))))
theorem opa1 (w : World) : Open.Opens Try.prog w 30 k30 (fun x => ok30 x) := fun _ => op30 w _
end Go.Proofs.Ythhgfagnallcnaa.textdiffOneEdit
