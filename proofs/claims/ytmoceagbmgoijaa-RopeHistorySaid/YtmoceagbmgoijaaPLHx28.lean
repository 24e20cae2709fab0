/- A part of a law as a program wrote it (wip/myprint.py, over the print of the kit): a function, what its call does, or the row of a law; Lean checks it. -/
import Derived.Test.YtmoceagbmgoijaaPLHx0
namespace Go.Proofs.Ytmoceagbmgoijaa.PLH
open Go.RowKit Go.Proofs.YtmoceagbmgoijaaW.PrintWords Go.Proofs.YtmoceagbmgoijaaW.PrintLast Go.Proofs.YtmoceagbmgoijaaW.PrintMore
attribute [local go_sem] max2_int min2_int max_two min_two max_three min_three max_four min_four   -- for this text's walks alone
set_option linter.unusedVariables false
set_option linter.unusedSimpArgs false

/-! ### emendatelaw01_RopeHistory: function 9 -/
-- (a text of its own, pasted by myprint.py)
def emendatelaw01_RopeHistory.f (a0 : ByteArray) (l1 : List S32) : Option Bool := if (∀ y ∈ l1, y.f2.size ≤ 140737488351232) then some true else none
theorem emendatelaw01_RopeHistory.calls (a0 : ByteArray) (A1 : Option Addr) (c1 : Nat) (l1 : List S32) (r : Bool) (w : World) (hr1 : Kd.C k32 w A1 l1.length l1) (hc1 : l1.length ≤ c1) (h : emendatelaw01_RopeHistory.f a0 l1 = some r) : Calls Try.prog 9 #[.string a0, .slice A1 l1.length c1] w fun e w' => e = .returned (.bool r) ∧ Below w.heap.size w w' := by
  unfold emendatelaw01_RopeHistory.f at h
  split at h
  · rename_i hs
    cases h
    refine Rop.history_law a0 A1 l1.length c1 (fun i => (rd_T32 l1 i).f0) (fun i => (rd_T32 l1 i).f1) (fun i => (rd_T32 l1 i).f2) w ?_ ?_ hc1
    · intro i hi
      obtain ⟨ad, e, _⟩ := at_T32 hr1 i (by omega) (by omega)
      refine ⟨ad, e, fun Y hY => ?_⟩
      obtain ⟨ad', e', h1, h2, h3⟩ := at_T32 (Kd.C_below hr1 hY) i (by omega) (by omega)
      rw [e] at e'
      cases e'
      rw [Int.toNat_natCast] at h1 h2 h3
      exact ⟨h1, h2, h3⟩
    · intro i hi
      refine hs _ ?_
      unfold rd_T32
      rw [Int.toNat_natCast, List.getD_eq_getElem?_getD, List.getElem?_eq_getElem hi]
      exact List.getElem_mem hi
  · cases h

end Go.Proofs.Ytmoceagbmgoijaa.PLH
