/- The pure statement of TextdiffMetric: for all strings of at most 80 bytes the distance is symmetric, zero exactly for equal strings, and satisfies the triangle inequality. -/
import Derived.Test.YthhgfagnallcnaaSayTextdiffMetric
import Derived.Test.YthhgfagnallcnaaAwa
set_option linter.unusedVariables false
namespace Go.Proofs.Ythhgfagnallcnaa.textdiffMetric
open Go.RowKit Go.Proofs.Ythhgfagnallcnaa.PA Go.Proofs.YthhgfagnallcnaaW.PrintWords Go.Proofs.YthhgfagnallcnaaW.PrintLast Go.Proofs.Ythhgfagnallcnaa.Eds Go.Proofs.Ythhgfagnallcnaa.Tbl Go.Proofs.Ythhgfagnallcnaa.Awa

theorem pure : Pure := by
  intro a b c _ _ _
  refine ⟨100, ?_⟩
  unfold emendatelaw06_TextdiffMetric.f
  rw [awake_ex 100 (by omega), Option.bind_some, if_pos rfl, few_ex, Option.bind_some]
  by_cases h1 : a.size ≤ 80 ∧ b.size ≤ 80
  · rw [decide_eq_true h1, if_pos rfl, few_ex, Option.bind_some]
    by_cases h2 : b.size ≤ 80 ∧ c.size ≤ 80
    · rw [decide_eq_true h2, emendatelaw06_TextdiffMetric.j0, if_neg (by decide), dist_f (by omega) (by omega), Option.bind_some, dist_f (by omega) (by omega), Option.bind_some,
        dist_f (by omega) (by omega), dist_f (by omega) (by omega), Option.bind_some, Option.bind_some]
      have e1 : (D (B a) (B b) : Int) = (D (B b) (B a) : Int) := by rw [D_symm]
      have e2 : (((D (B a) (B b) : Int) == 0) == (a.toList == b.toList)) = true := by
        rw [beq_iff_eq, Bool.eq_iff_iff, beq_iff_eq, beq_iff_eq, ByteArray.toList_eq, ByteArray.toList_eq]
        constructor
        · intro h; exact (D_zero (B a) (B b)).1 (by omega)
        · intro h; have := (D_zero (B a) (B b)).2 h; omega
      rw [if_pos e1, if_pos e2, if_pos (by omega)]
      congr 1
      have t := D_triangle (B a) (B b) (B c)
      have s1 := D_size (B a) (B b)
      have s2 := D_size (B b) (B c)
      rw [B_len, B_len] at s1 s2
      have w : wrap64 ((D (B a) (B b) : Int) + (D (B b) (B c) : Int)) = ((D (B a) (B b) : Int) + (D (B b) (B c) : Int)) := by unfold wrap64; omega
      rw [w]
      exact decide_eq_true (by omega)
    · rw [decide_eq_false h2, emendatelaw06_TextdiffMetric.j0, if_pos (by decide)]
  · rw [decide_eq_false h1, if_neg (by decide), emendatelaw06_TextdiffMetric.j0, if_pos rfl]

end Go.Proofs.Ythhgfagnallcnaa.textdiffMetric
