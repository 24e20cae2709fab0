/- The pure statement of TextdiffDistanceMatchesReference: for all strings of at most 80 bytes Distance answers as the reference. -/
import Derived.Test.YthhgfagnallcnaaSayTextdiffDistanceMatchesReference
import Derived.Test.YthhgfagnallcnaaAwa
import Derived.Test.YthhgfagnallcnaaRtb
set_option linter.unusedVariables false
namespace Go.Proofs.Ythhgfagnallcnaa.textdiffDistanceMatchesReference
open Go.RowKit Go.Proofs.Ythhgfagnallcnaa.PA Go.Proofs.YthhgfagnallcnaaW.PrintWords Go.Proofs.YthhgfagnallcnaaW.PrintLast Go.Proofs.Ythhgfagnallcnaa.Eds Go.Proofs.Ythhgfagnallcnaa.Tbl Go.Proofs.Ythhgfagnallcnaa.Awa Go.Proofs.Ythhgfagnallcnaa.Rtb

theorem pure : Pure := by
  intro a b _ _
  refine ⟨10020, ?_⟩
  unfold emendatelaw06_TextdiffDistanceMatchesReference.f
  rw [awake_ex 10020 (by omega), Option.bind_some, if_pos rfl, few_ex, Option.bind_some]
  by_cases h1 : a.size ≤ 80 ∧ b.size ≤ 80
  · obtain ⟨t, hg, ht⟩ := table_ref h1.1 h1.2
    have h0 := hg.2 0 0 (Nat.zero_le _) (Nat.zero_le _) (Nat.zero_le _)
    have hl : 0 < t.length := by rw [hg.1]; exact Nat.mul_pos (Nat.succ_pos _) (Nat.succ_pos _)
    rw [Nat.zero_mul] at h0
    have h0' : rd t 0 = (D (B a) (B b) : Int) := h0
    have hr : emendateref06_Distance.f 10020 a b = some (D (B a) (B b) : Int) := by
      unfold emendateref06_Distance.f
      rw [ht 20, Option.bind_some, if_pos (by omega), h0']
    rw [decide_eq_true h1, if_pos rfl, dist_f (by omega) (by omega), Option.bind_some, hr, Option.bind_some, beq_self_eq_true]
  · rw [decide_eq_false h1, if_neg (by decide)]

end Go.Proofs.Ythhgfagnallcnaa.textdiffDistanceMatchesReference
