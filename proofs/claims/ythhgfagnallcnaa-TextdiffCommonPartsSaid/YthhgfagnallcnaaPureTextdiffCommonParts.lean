/- The pure statement of TextdiffCommonParts: a common prefix and a common suffix of at most 20 bytes do not change the distance of strings of at most 80 bytes. -/
import Derived.Test.YthhgfagnallcnaaSayTextdiffCommonParts
import Derived.Test.YthhgfagnallcnaaAwa
set_option linter.unusedVariables false
namespace Go.Proofs.Ythhgfagnallcnaa.textdiffCommonParts
open Go.RowKit Go.Proofs.Ythhgfagnallcnaa.PA Go.Proofs.YthhgfagnallcnaaW.PrintWords Go.Proofs.YthhgfagnallcnaaW.PrintLast Go.Proofs.Ythhgfagnallcnaa.Eds Go.Proofs.Ythhgfagnallcnaa.Tbl Go.Proofs.Ythhgfagnallcnaa.Awa

theorem B_app (a b : ByteArray) : B (a ++ b) = B a ++ B b := by unfold B; rw [ByteArray.data_append, Array.toList_append]
theorem pure : Pure := by
  intro a b c _ _ _
  refine ⟨100, ?_⟩
  unfold emendatelaw06_TextdiffCommonParts.f
  rw [awake_ex 100 (by omega), Option.bind_some, if_pos rfl, few_ex, Option.bind_some]
  by_cases h1 : a.size ≤ 80 ∧ b.size ≤ 80
  · rw [decide_eq_true h1, if_pos rfl]
    by_cases h2 : (c.size : Int) > 20
    · rw [decide_eq_true h2, emendatelaw06_TextdiffCommonParts.j0, if_pos rfl]
    · have s1 : (c ++ a).size = c.size + a.size := ByteArray.size_append
      have s2 : (c ++ b).size = c.size + b.size := ByteArray.size_append
      have s3 : (a ++ c).size = a.size + c.size := ByteArray.size_append
      have s4 : (b ++ c).size = b.size + c.size := ByteArray.size_append
      rw [decide_eq_false h2, emendatelaw06_TextdiffCommonParts.j0, if_neg (by decide), dist_f (by omega) (by omega), Option.bind_some, if_pos (by omega), if_pos (by omega),
        dist_f (by omega) (by omega), Option.bind_some, B_app, B_app, D_prefix, if_pos rfl, if_pos (by omega), if_pos (by omega), dist_f (by omega) (by omega), Option.bind_some, B_app, B_app, D_suffix]
      rw [beq_self_eq_true]
  · rw [decide_eq_false h1, if_neg (by decide), emendatelaw06_TextdiffCommonParts.j0, if_pos rfl]

end Go.Proofs.Ythhgfagnallcnaa.textdiffCommonParts
