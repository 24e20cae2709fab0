/- Encode returns the encodings of all records, and Append adds one: as the reference does, for every list of strings and every record. -/
import Derived.Test.YtfiefplalpjlpaaSayWalEncodeMatchesReference
import Derived.Test.YtfiefplalpjlpaaRefs
set_option linter.unusedVariables false
set_option linter.unusedSimpArgs false
namespace Go.Proofs.Ytfiefplalpjlpaa.walEncodeMatchesReference
open Go.RowKit Go.Proofs.Ytfiefplalpjlpaa.PA Go.Proofs.YtfiefplalpjlpaaW.PrintWords Go.Proofs.YtfiefplalpjlpaaW.PrintLast Go.Proofs.Ytfiefplalpjlpaa.Math

theorem pure : Pure := by
  intro l a h ha
  obtain ⟨b, hb, hq⟩ := few l (by omega) h.2.2
  refine ⟨l.length + 4000, ?_⟩
  unfold emendatelaw51_WalEncodeMatchesReference.f
  rw [awake _ (by omega)]; simp only [Option.bind_some, if_true]
  rw [hb _ (by omega)]; simp only [Option.bind_some, if_true]
  have out : ∀ k, emendatelaw51_WalEncodeMatchesReference.j0 (k + 1) l a true = some true := fun k => by
    simp only [emendatelaw51_WalEncodeMatchesReference.j0, if_true]
  cases b with
  | false => rw [if_neg (by decide)]; exact out _
  | true =>
    rw [if_pos rfl]
    by_cases h3 : (a.size : Int) > 300
    · rw [decide_eq_true h3]; exact out _
    · rw [decide_eq_false h3]
      obtain ⟨ht, hl⟩ := hq rfl
      have hz := encs_size l
      simp only [emendatelaw51_WalEncodeMatchesReference.j0]
      rw [if_neg (by decide), encode_f l (by omega)]; simp only [Option.bind_some, if_true]
      rw [ref_encode l (by omega) (by omega) _ (by omega)]; simp only [Option.bind_some, if_true]
      rw [append_f _ _ (by omega)]; simp only [Option.bind_some, if_true]
      rw [ref_append _ _ (by omega) _ (by omega)]; simp only [Option.bind_some, if_true]
      simp

end Go.Proofs.Ytfiefplalpjlpaa.walEncodeMatchesReference
