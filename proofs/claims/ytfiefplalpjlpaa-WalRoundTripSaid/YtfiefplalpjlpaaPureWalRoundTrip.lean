/- Decoding an encoded list returns the list and the length of the log: for every list of strings. -/
import Derived.Test.YtfiefplalpjlpaaSayWalRoundTrip
import Derived.Test.YtfiefplalpjlpaaRefs
set_option linter.unusedVariables false
set_option linter.unusedSimpArgs false
namespace Go.Proofs.Ytfiefplalpjlpaa.walRoundTrip
open Go.RowKit Go.Proofs.Ytfiefplalpjlpaa.PA Go.Proofs.YtfiefplalpjlpaaW.PrintWords Go.Proofs.YtfiefplalpjlpaaW.PrintLast Go.Proofs.Ytfiefplalpjlpaa.Math

theorem pure : Pure := by
  intro l h
  obtain ⟨b, hb, hq⟩ := few l (by omega) h.2.2
  refine ⟨l.length + 4, ?_⟩
  unfold emendatelaw51_WalRoundTrip.f
  rw [awake _ (by omega)]; simp only [Option.bind_some, if_true]
  rw [hb _ (by omega)]; simp only [Option.bind_some, if_true]
  cases b with
  | false => rw [if_neg (by decide)]
  | true =>
    obtain ⟨ht, hl⟩ := hq rfl
    have hz := encs_size l
    have hr : ∀ r ∈ l, r.size < 4294967296 := fun r hr => by have := total_mem hr; omega
    rw [if_pos rfl, encode_f l (by omega)]; simp only [Option.bind_some, if_true]
    rw [decode_f (dec_round l hr) (by omega) _ (by omega) (by omega)]; simp only [Option.bind_some, if_true]
    rw [same l (by omega) _ (by omega)]; simp only [Option.bind_some, if_true]
    simp
end Go.Proofs.Ytfiefplalpjlpaa.walRoundTrip
