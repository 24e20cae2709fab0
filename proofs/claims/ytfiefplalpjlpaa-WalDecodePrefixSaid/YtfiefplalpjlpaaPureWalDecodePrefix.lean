/- Encoding the decoded records gives the part of the log that was decoded: for every log. -/
import Derived.Test.YtfiefplalpjlpaaSayWalDecodePrefix
import Derived.Test.YtfiefplalpjlpaaRefs
set_option linter.unusedVariables false
set_option linter.unusedSimpArgs false
namespace Go.Proofs.Ytfiefplalpjlpaa.walDecodePrefix
open Go.RowKit Go.Proofs.Ytfiefplalpjlpaa.PA Go.Proofs.YtfiefplalpjlpaaW.PrintWords Go.Proofs.YtfiefplalpjlpaaW.PrintLast Go.Proofs.Ytfiefplalpjlpaa.Math

theorem pure : Pure := by
  intro s hs
  refine ⟨s.size + 4, ?_⟩
  unfold emendatelaw51_WalDecodePrefix.f
  rw [awake _ (by omega)]; simp only [Option.bind_some, if_true]
  by_cases h3 : (s.size : Int) > 3000
  · rw [if_pos h3]
  obtain ⟨l, m, hd, hm, hl⟩ := dec_all s.size s (Nat.le_refl _)
  have hp := dec_prefix hd
  have hpz := congrArg ByteArray.size hp
  rw [ByteArray.size_extract] at hpz
  rw [if_neg h3, decode_f hd (by omega) _ (by omega) (by omega)]; simp only [Option.bind_some, if_true]
  rw [if_pos (by omega), if_pos (by omega), encode_f l (by omega)]; simp only [Option.bind_some, if_true]
  rw [if_pos (by omega), Int.toNat_natCast, hp]
  simp

end Go.Proofs.Ytfiefplalpjlpaa.walDecodePrefix
