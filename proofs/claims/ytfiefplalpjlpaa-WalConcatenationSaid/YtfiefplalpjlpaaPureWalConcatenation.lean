/- The encoding of two lists, one after the other, is the concatenation of their encodings, and appending to a complete log keeps its records: for all lists of strings. -/
import Derived.Test.YtfiefplalpjlpaaSayWalConcatenation
import Derived.Test.YtfiefplalpjlpaaRefs
set_option linter.unusedVariables false
set_option linter.unusedSimpArgs false
namespace Go.Proofs.Ytfiefplalpjlpaa.walConcatenation
open Go.RowKit Go.Proofs.Ytfiefplalpjlpaa.PA Go.Proofs.YtfiefplalpjlpaaW.PrintWords Go.Proofs.YtfiefplalpjlpaaW.PrintLast Go.Proofs.Ytfiefplalpjlpaa.Math

theorem pure : Pure := by
  intro a b ha hb'
  obtain ⟨p, hp, hpq⟩ := few a (by omega) ha.2.2
  obtain ⟨q, hq, hqq⟩ := few b (by omega) hb'.2.2
  refine ⟨a.length + b.length + 4, ?_⟩
  unfold emendatelaw51_WalConcatenation.f
  rw [awake _ (by omega)]; simp only [Option.bind_some, if_true]
  rw [hp _ (by omega)]; simp only [Option.bind_some, if_true]
  have out : ∀ k, emendatelaw51_WalConcatenation.j0 (k + 1) a b true = some true := fun k => by
    simp only [emendatelaw51_WalConcatenation.j0, if_true]
  cases p with
  | false => rw [if_neg (by decide)]; exact out _
  | true =>
    rw [if_pos rfl, hq _ (by omega)]; simp only [Option.bind_some, if_true]
    cases q with
    | false => exact out _
    | true =>
      obtain ⟨t1, l1⟩ := hpq rfl
      obtain ⟨t2, l2⟩ := hqq rfl
      have z1 := encs_size a
      have z2 := encs_size b
      have hr : ∀ r ∈ a ++ b, r.size < 4294967296 := fun r hr => by
        rcases List.mem_append.1 hr with hr | hr
        · have := total_mem hr; omega
        · have := total_mem hr; omega
      have hz := encs_size (a ++ b)
      rw [List.length_append, total_append] at hz
      simp only [emendatelaw51_WalConcatenation.j0, Bool.not_true]
      rw [if_neg (by decide)]; simp only [Option.bind_some, List.nil_append]
      rw [if_pos (by simp; omega)]
      rw [if_pos (by omega), encode_f a (by omega)]; simp only [Option.bind_some, if_true]
      rw [encode_f b (by omega)]; simp only [Option.bind_some, if_true]
      rw [if_pos (by omega), ← Math.encs_append, decode_f (dec_round (a ++ b) hr) (by omega) _ (by rw [List.length_append]; omega) (by rw [List.length_append]; omega)]; simp only [Option.bind_some, if_true]
      rw [encode_f (a ++ b) (by omega)]; simp only [Option.bind_some, if_true]
      rw [same (a ++ b) (by rw [List.length_append]; omega) _ (by rw [List.length_append]; omega)]; simp only [Option.bind_some, if_true]
      simp

end Go.Proofs.Ytfiefplalpjlpaa.walConcatenation
