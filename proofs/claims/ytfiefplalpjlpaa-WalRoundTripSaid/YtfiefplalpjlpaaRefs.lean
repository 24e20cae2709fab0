/- The reference's functions over logs, and the example of the document: what each answers. -/
import Derived.Test.YtfiefplalpjlpaaDec
import Derived.Test.YtfiefplalpjlpaaPAx13
import Derived.Test.YtfiefplalpjlpaaPAx17
set_option linter.unusedVariables false
namespace Go.Proofs.Ytfiefplalpjlpaa.Math
open Go.RowKit Go.Proofs.Ytfiefplalpjlpaa.PA Go.Proofs.YtfiefplalpjlpaaW.PrintWords

theorem ref_append (a r : ByteArray) (h : a.size + 8 + r.size ≤ 9223372036854775806) (k : Nat) (hk : r.size + 4 < k) : emendateref51_Append.f k a r = some (a ++ enc r) := by
  unfold emendateref51_Append.f
  rw [little_f]; simp only [Option.bind_some]
  rw [if_pos (by rw [len4_size]; omega), if_pos (by rw [len4_size]; omega), ref_hash _ (by rw [ByteArray.size_append, len4_size]; omega) k (by rw [ByteArray.size_append, len4_size]; omega)]
  simp only [Option.bind_some]
  rw [little_f]; simp only [Option.bind_some]
  rw [if_pos (by simp only [ByteArray.size_append, len4_size]; omega), if_pos (by simp only [ByteArray.size_append, len4_size]; omega)]
  unfold enc ck
  rw [len4_mod]
  simp only [ByteArray.append_assoc]
theorem rd_strings (l : List ByteArray) (i : Nat) (h : i < l.length) : rdOf ByteArray.empty l (i : Int) = l[i] := by
  unfold rdOf
  rw [Int.toNat_natCast, List.getD_eq_getElem?_getD, List.getElem?_eq_getElem h]; rfl
theorem ref_encode_go (l : List ByteArray) (hl : l.length ≤ 9223372036854775806) (hz : (encs l).size ≤ 9223372036854775806) (d : Nat) : ∀ (k : Nat) (i : Nat) (acc : ByteArray), i + d = l.length → acc.size + (encs (l.drop i)).size ≤ 9223372036854775806 → d + total l + 4 < k →
    emendateref51_Encode.l0 k l acc i = some (acc ++ encs (l.drop i)) := by
  induction d with
  | zero =>
    intro k i acc hi ha hk
    obtain ⟨k, rfl⟩ : ∃ m, k = m + 1 := ⟨k - 1, by omega⟩
    simp only [emendateref51_Encode.l0]
    rw [if_neg (by omega), List.drop_of_length_le (by omega)]
    simp only [encs]; rw [append_empty]
  | succ d ih =>
    intro k i acc hi ha hk
    obtain ⟨k, rfl⟩ : ∃ m, k = m + 1 := ⟨k - 1, by omega⟩
    have hlt : i < l.length := by omega
    rw [List.drop_eq_getElem_cons hlt] at ha ⊢
    simp only [encs, ByteArray.size_append, enc_size] at ha
    have ht := total_mem (List.getElem_mem hlt)
    simp only [emendateref51_Encode.l0, encs]
    rw [if_pos (by omega), if_pos (by omega), rd_strings l i hlt, ref_append _ _ (by omega) k (by omega)]
    simp only [Option.bind_some]
    rw [wrap64_small _ (by omega) (by omega), show (i : Int) + 1 = ((i + 1 : Nat) : Int) by omega]
    rw [ih k (i + 1) _ (by omega) (by rw [ByteArray.size_append, enc_size]; omega) (by omega), ByteArray.append_assoc]
theorem ref_encode (l : List ByteArray) (hl : l.length ≤ 9223372036854775806) (hz : (encs l).size ≤ 9223372036854775806) (k : Nat) (hk : l.length + total l + 4 < k) : emendateref51_Encode.f k l = some (encs l) := by
  unfold emendateref51_Encode.f
  have := ref_encode_go l hl hz l.length k 0 ⟨#[]⟩ (by omega) (by rw [List.drop_zero, show (⟨#[]⟩ : ByteArray).size = 0 from rfl]; omega) (by omega)
  rw [List.drop_zero, empty_append] at this
  exact this

/-! Few and Same -/
theorem few_go (l : List ByteArray) (hl : l.length ≤ 9223372036854775806) (hy : ∀ y ∈ l, y.size ≤ 140737488351232) (d : Nat) : ∀ (i n : Nat), i + d = l.length → n ≤ 3000 →
    ∃ b, (∀ k, d < k → emendateref51_Few.l0 k l n i = some b) ∧ (b = true → n + total (l.drop i) ≤ 3000 ∧ l.length ≤ 40) := by
  induction d with
  | zero =>
    intro i n hi hn
    refine ⟨decide ((l.length : Int) ≤ 40), fun k hk => ?_, fun hb => ?_⟩
    · obtain ⟨k, rfl⟩ : ∃ m, k = m + 1 := ⟨k - 1, by omega⟩
      simp only [emendateref51_Few.l0]
      rw [if_neg (by omega)]
    · have := of_decide_eq_true hb
      rw [List.drop_of_length_le (by omega)]
      simp only [total]; omega
  | succ d ih =>
    intro i n hi hn
    have hlt : i < l.length := by omega
    have hz := hy _ (List.getElem_mem hlt)
    by_cases h3 : n + (l[i]).size > 3000
    · refine ⟨false, fun k hk => ?_, fun hb => by cases hb⟩
      obtain ⟨k, rfl⟩ : ∃ m, k = m + 1 := ⟨k - 1, by omega⟩
      simp only [emendateref51_Few.l0]
      rw [if_pos (by omega), if_pos (by omega), rd_strings l i hlt, wrap64_small _ (by omega) (by omega), if_pos (by omega)]
    · obtain ⟨b, hb, hq⟩ := ih (i + 1) (n + (l[i]).size) (by omega) (by omega)
      refine ⟨b, fun k hk => ?_, fun h => ?_⟩
      · obtain ⟨k, rfl⟩ : ∃ m, k = m + 1 := ⟨k - 1, by omega⟩
        simp only [emendateref51_Few.l0]
        rw [if_pos (by omega), if_pos (by omega), rd_strings l i hlt, wrap64_small _ (by omega) (by omega), if_neg (by omega), wrap64_small _ (by omega) (by omega)]
        have := hb k (by omega)
        rw [show (i : Int) + 1 = ((i + 1 : Nat) : Int) by omega, show (n : Int) + ((l[i]).size : Int) = ((n + (l[i]).size : Nat) : Int) by omega]
        exact this
      · have := hq h
        rw [List.drop_eq_getElem_cons hlt]
        simp only [total]; omega
theorem few (l : List ByteArray) (hl : l.length ≤ 9223372036854775806) (hy : ∀ y ∈ l, y.size ≤ 140737488351232) :
    ∃ b, (∀ k, l.length < k → emendateref51_Few.f k l = some b) ∧ (b = true → total l ≤ 3000 ∧ l.length ≤ 40) := by
  obtain ⟨b, hb, hq⟩ := few_go l hl hy l.length 0 0 (by omega) (by omega)
  refine ⟨b, fun k hk => hb k hk, fun h => ?_⟩
  have := hq h
  rw [List.drop_zero] at this
  omega
theorem same_go (l : List ByteArray) (hl : l.length ≤ 9223372036854775806) (d : Nat) : ∀ (i k : Nat), i + d = l.length → d < k → emendateref51_Same.l0 k l l i = some true := by
  induction d with
  | zero =>
    intro i k hi hk
    obtain ⟨k, rfl⟩ : ∃ m, k = m + 1 := ⟨k - 1, by omega⟩
    simp only [emendateref51_Same.l0]
    rw [if_neg (by omega)]
  | succ d ih =>
    intro i k hi hk
    obtain ⟨k, rfl⟩ : ∃ m, k = m + 1 := ⟨k - 1, by omega⟩
    simp only [emendateref51_Same.l0]
    rw [if_pos (by omega), if_pos (by omega), if_pos (by omega)]
    simp only [if_true]
    rw [wrap64_small _ (by omega) (by omega), show (i : Int) + 1 = ((i + 1 : Nat) : Int) by omega]
    exact ih (i + 1) k (by omega) (by omega)
theorem same (l : List ByteArray) (hl : l.length ≤ 9223372036854775806) (k : Nat) (hk : l.length < k) : emendateref51_Same.f k l l = some true := by
  unfold emendateref51_Same.f
  rw [if_pos rfl]
  exact same_go l hl l.length 0 k (by omega) hk

/-! the example of the document -/
theorem example_empty : (enc ⟨#[]⟩).toList = ([0, 0, 0, 0, 21, 245, 149, 75] : List UInt8) := by
  rw [ByteArray.toList_eq]
  kernel_rfl
theorem awake (k : Nat) (hk : 3 < k) : emendatelaw51_awake.f k = some true := by
  unfold emendatelaw51_awake.f
  have hz : (encs [(⟨#[97]⟩ : ByteArray), (⟨#[]⟩ : ByteArray)]).size = 17 := by rw [encs_size]; rfl
  rw [encode_f _ (by rw [hz]; decide)]; simp only [Option.bind_some]
  rw [decode_f (dec_round _ (by intro r hr; simp at hr; rcases hr with rfl | rfl <;> decide)) (by rw [hz]; decide) k (by simp) (by simp; omega)]; simp only [Option.bind_some]
  rw [append_f _ _ (by decide), empty_append]; simp only [Option.bind_some]
  rw [if_pos example_empty, hz]
  simp only [List.length_cons, List.length_nil]
  rw [if_pos (by decide), if_pos (by decide), if_pos (by rw [ByteArray.toList_eq]; rfl), if_pos (by decide), if_pos (by rw [ByteArray.toList_eq]; rfl)]
  rfl
end Go.Proofs.Ytfiefplalpjlpaa.Math
