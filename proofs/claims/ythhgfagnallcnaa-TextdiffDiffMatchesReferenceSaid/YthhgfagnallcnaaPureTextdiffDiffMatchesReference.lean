/- The pure statement of TextdiffDiffMatchesReference: for all strings of at most 80 bytes Diff answers the edits of the reference. -/
import Derived.Test.YthhgfagnallcnaaSayTextdiffDiffMatchesReference
import Derived.Test.YthhgfagnallcnaaAwa
import Derived.Test.YthhgfagnallcnaaRdf
set_option linter.unusedVariables false
namespace Go.Proofs.Ythhgfagnallcnaa.textdiffDiffMatchesReference
open Go.RowKit Go.Proofs.Ythhgfagnallcnaa.PA Go.Proofs.YthhgfagnallcnaaW.PrintWords Go.Proofs.YthhgfagnallcnaaW.PrintLast Go.Proofs.Ythhgfagnallcnaa.Eds Go.Proofs.Ythhgfagnallcnaa.Tbl Go.Proofs.Ythhgfagnallcnaa.Awa Go.Proofs.Ythhgfagnallcnaa.Rdf Go.Proofs.Ythhgfagnallcnaa.Dif

theorem count1 {a b : L} {N : Nat} {f : Bool} {out : L} {q c : Nat} {rest : List S30} (h : Run a b N f out q c rest) : f = true → rest.length + q ≤ a.length := by
  induction h with
  | nil h1 h2 h3 => intro _; rw [List.length_nil]; omega
  | cons h1 h2 h3 _ ih => intro hf; have := h2 hf; have := ih rfl; rw [List.length_cons]; omega
theorem count {a b : L} {N : Nat} {f : Bool} {out : L} {q c : Nat} {rest : List S30} (h : Run a b N f out q c rest) : rest.length ≤ a.length + 1 := by
  cases h with
  | nil h1 h2 h3 => rw [List.length_nil]; omega
  | cons h1 h2 h3 h4 => have := count1 h4 rfl; rw [List.length_cons]; omega
theorem pure : Pure := by
  intro a b _ _
  by_cases h1 : a.size ≤ 80 ∧ b.size ≤ 80
  · obtain ⟨l, hl, hr⟩ := diff_spec (a := a) (b := b) (by omega) (by omega)
    have hc : l.length ≤ 2000 := by
      have := count hr
      rw [B_len] at this
      omega
    obtain ⟨k0, hk⟩ := diff_ref h1.1 h1.2 l hl
    refine ⟨6000 + k0, ?_⟩
    unfold emendatelaw06_TextdiffDiffMatchesReference.f
    rw [awake_ex _ (by omega), Option.bind_some, if_pos rfl, few_ex, Option.bind_some, decide_eq_true h1, if_pos rfl, hl, Option.bind_some, hk, Option.bind_some, same_f l (by omega) _ (by omega), Option.bind_some]
  · refine ⟨6000, ?_⟩
    unfold emendatelaw06_TextdiffDiffMatchesReference.f
    rw [awake_ex _ (by omega), Option.bind_some, if_pos rfl, few_ex, Option.bind_some, decide_eq_false h1, if_neg (by decide)]

end Go.Proofs.Ythhgfagnallcnaa.textdiffDiffMatchesReference
