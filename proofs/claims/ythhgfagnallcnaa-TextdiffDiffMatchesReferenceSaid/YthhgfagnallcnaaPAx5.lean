/- A part of a law as a program wrote it (wip/myprint.py, over the print of the kit): a function, what its call does, or the row of a law; Lean checks it. -/
import Derived.Test.YthhgfagnallcnaaPAx0
namespace Go.Proofs.Ythhgfagnallcnaa.PA
open Go.RowKit Go.Proofs.YthhgfagnallcnaaW.PrintWords Go.Proofs.YthhgfagnallcnaaW.PrintLast Go.Proofs.YthhgfagnallcnaaW.PrintMore
attribute [local go_sem] max2_int min2_int max_two min_two max_three min_three max_four min_four   -- for this text's walks alone
set_option linter.unusedVariables false
set_option linter.unusedSimpArgs false

/-! ### textdiff_Distance: function 12 -/
-- (a text of its own, pasted by myprint.py)
def textdiff_Distance.f (a0 a1 : ByteArray) : Option Int := if a0.size ≤ 1000 ∧ a1.size ≤ 1000 then some (rd (Of.table a0 a1) 0) else none
set_option maxHeartbeats 2000000 in
set_option maxRecDepth 100000 in
theorem textdiff_Distance.calls (a0 a1 : ByteArray) (r : Int) (w : World) (h : textdiff_Distance.f a0 a1 = some r) :
    Calls Try.prog 12 #[.string a0, .string a1] w fun e w' => e = .returned (.int .i64 r) ∧ Below w.heap.size w w' := by
  unfold textdiff_Distance.f at h
  by_cases hs : a0.size ≤ 1000 ∧ a1.size ≤ 1000
  · rw [if_pos hs] at h
    have HR := Aside0.mk (Option.some.inj h)
    clear h
    obtain ⟨h0, h1⟩ := hs
    go_enter Try.func12, Try.ntmps12
    go_wp2_with (go_at_call 21; refine (Of.of_any a0 a1 _ h0 h1).mono ?_)
    rintro e w1 ⟨ba, bb, vB, tB, gB, rfl, l1, l2, hT, hB⟩
    have HT := Aside0.mk hT
    have HB := Aside0.mk hB
    clear hT hB
    go_wp2_with (go_at_call 22; refine (Of.at_tb2 HT.out h0 h1 (Of.fillT_length _ _ _) _ _ ⟨0, 0, rfl, rfl, Nat.zero_le _, Nat.zero_le _⟩).mono ?_; rintro e w' ⟨rfl, ⟨nd, rfl⟩⟩)
    go_ret
    exact ⟨by rw [← HR.out]; rfl, pw_below_drewN HB.out nd⟩
  · rw [if_neg hs] at h; cases h

end Go.Proofs.Ythhgfagnallcnaa.PA
