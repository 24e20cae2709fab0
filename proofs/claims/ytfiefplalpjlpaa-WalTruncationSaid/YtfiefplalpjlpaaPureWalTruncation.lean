/- After truncation at any byte, Decode returns the records that are still complete: for every list of strings and every place. -/
import Derived.Test.YtfiefplalpjlpaaSayWalTruncation
import Derived.Test.YtfiefplalpjlpaaRefs
set_option linter.unusedVariables false
set_option linter.unusedSimpArgs false
namespace Go.Proofs.Ytfiefplalpjlpaa.walTruncation
open Go.RowKit Go.Proofs.Ytfiefplalpjlpaa.PA Go.Proofs.YtfiefplalpjlpaaW.PrintWords Go.Proofs.YtfiefplalpjlpaaW.PrintLast Go.Proofs.Ytfiefplalpjlpaa.Math

/-- where the records that are complete before 'a' end -/
theorem loop (l : List ByteArray) (hl : l.length ≤ 40) (ht : total l ≤ 3000) (a : Nat) (ms : List ByteArray) (n : Int)
    (hd : ∀ i : Nat, i ≤ l.length → (encs (l.take i)).size ≤ a → (∀ h : i < l.length, a < (encs (l.take i)).size + 8 + (l[i]).size) → ms = l.take i ∧ n = (encs (l.take i)).size) (d : Nat) :
    ∀ (i k : Nat), i + d = l.length → l.length + d + 1 < k → (encs (l.take i)).size ≤ a → emendatelaw51_WalTruncation.l0 k l a ms n i ((encs (l.take i)).size : Nat) = some true := by
  induction d with
  | zero =>
    intro i k hi hk ha
    obtain ⟨k, rfl⟩ : ∃ m, k = m + 1 := ⟨k - 1, by omega⟩
    obtain ⟨rfl, rfl⟩ := hd i (by omega) ha (fun h => by omega)
    rw [emendatelaw51_WalTruncation.l0]
    rw [if_neg (by omega), if_pos (by omega), if_pos (by omega), Int.toNat_natCast, same _ (by rw [List.length_take]; omega) k (by rw [List.length_take]; omega)]
    simp
  | succ d ih =>
    intro i k hi hk ha
    obtain ⟨k, rfl⟩ : ∃ m, k = m + 1 := ⟨k - 1, by omega⟩
    have hlt : i < l.length := by omega
    have hm := total_mem (List.getElem_mem hlt)
    have hz := encs_size (l.take i)
    have htk : total (l.take i) ≤ total l := by
      have := total_append (l.take i) (l.drop i)
      rw [List.take_append_drop] at this; omega
    have hlk : (l.take i).length = i := by rw [List.length_take]; omega
    rw [emendatelaw51_WalTruncation.l0]
    rw [if_pos (by omega), if_pos (by omega), rd_strings l i hlt, wrap64_small (((encs (l.take i)).size : Int) + 8) (by omega) (by omega)]
    rw [wrap64_small (((encs (l.take i)).size : Int) + 8 + ((l[i]).size : Int)) (by omega) (by omega)]
    have hs : (encs (l.take (i + 1))).size = (encs (l.take i)).size + 8 + (l[i]).size := by
      rw [List.take_succ_eq_append_getElem hlt, Math.encs_append, ByteArray.size_append]
      have : encs [l[i]] = enc l[i] := by simp only [Math.encs]; exact append_empty _
      rw [this, enc_size]; omega
    by_cases hc : (encs (l.take i)).size + 8 + (l[i]).size ≤ a
    · rw [if_pos (by omega), wrap64_small ((i : Int) + 1) (by omega) (by omega)]
      have := ih (i + 1) k (by omega) (by omega) (by omega)
      rw [hs] at this
      rw [show (i : Int) + 1 = ((i + 1 : Nat) : Int) by omega, show ((encs (l.take i)).size : Int) + 8 + ((l[i]).size : Int) = (((encs (l.take i)).size + 8 + (l[i]).size : Nat) : Int) by omega]
      exact this
    · rw [if_neg (by omega)]
      obtain ⟨rfl, rfl⟩ := hd i (by omega) ha (fun _ => by omega)
      rw [if_pos (by omega), Int.toNat_natCast, same _ (by omega) k (by omega)]
      simp
theorem parse_cut (r t : ByteArray) (j : Nat) (hr : r.size < 4294967296) (hj : j < 8 + r.size) : parse ((enc r ++ t).extract 0 j) = none := by
  have hz : ((enc r ++ t).extract 0 j).size = j := by rw [ByteArray.size_extract, ByteArray.size_append, enc_size]; omega
  unfold parse
  by_cases h8 : j < 8
  · rw [if_pos (by omega)]
  rw [if_neg (by omega)]
  have hn : num ((enc r ++ t).extract 0 j) = r.size := by
    have e : (enc r ++ t).extract 0 j = len4 r.size ++ ((enc r ++ t).extract 4 j) := by
      rw [extract_split _ 0 4 j (by omega) (by omega)]
      congr 1
      apply bytes_ext
      unfold enc
      have h4 := size_data (len4 ((r.size : Int) % 4294967296)); rw [len4_size] at h4
      rw [L_extract, L_append, L_append, L_append, List.append_assoc, List.append_assoc, List.drop_zero, Nat.sub_zero, List.take_left' h4, show ((r.size : Int) % 4294967296) = r.size by omega]
    rw [e]
    exact num_parts _ (by omega) (by omega) _
  rw [if_pos (by omega)]
theorem pure : Pure := by
  intro l p h hp
  obtain ⟨b, hb, hq⟩ := few l (by omega) h.2.2
  obtain ⟨k, hk⟩ : ∃ k, k = (encs l).size + 3 * l.length + 4 := ⟨_, rfl⟩
  refine ⟨k, ?_⟩
  unfold emendatelaw51_WalTruncation.f
  rw [awake _ (by omega)]; simp only [Option.bind_some, if_true]
  rw [hb _ (by omega)]; simp only [Option.bind_some]
  cases b with
  | false => rw [if_neg (by decide)]
  | true =>
    obtain ⟨ht, hl⟩ := hq rfl
    have hz := encs_size l
    have hr : ∀ r ∈ l, r.size < 4294967296 := fun r hr => by have := total_mem hr; omega
    have hp' := bounds_u16 hp
    rw [if_pos rfl, encode_f l (by omega), Option.bind_some]
    rw [wrap64_small _ (by omega) (by omega), wrap64_small p (by omega) (by omega)]
    obtain ⟨a, ha⟩ : ∃ a : Nat, Int.tmod p (((encs l).size : Int) + 1) = a := ⟨(Int.tmod p (((encs l).size : Int) + 1)).toNat, by rw [Int.toNat_of_nonneg (Int.tmod_nonneg _ (by omega))]⟩
    have hlt : (a : Int) < ((encs l).size : Int) + 1 := by rw [← ha]; exact Int.tmod_lt_of_pos _ (by omega)
    rw [if_neg (by omega), ha, if_pos (by omega), if_pos (by omega), Int.toNat_natCast]
    obtain ⟨ms, n, hd, hn, hln⟩ := dec_all _ ((encs l).extract 0 a) (Nat.le_refl _)
    have hez : ((encs l).extract 0 a).size = a := by rw [ByteArray.size_extract]; omega
    rw [decode_f hd (by omega) k (by omega) (by omega)]; simp only [Option.bind_some]
    have := loop l hl ht a ms n ?_ l.length 0 k (by omega) (by omega) (by simp [Math.encs, show (⟨#[]⟩ : ByteArray).size = 0 from rfl])
    · simpa [Math.encs, show (⟨#[]⟩ : ByteArray).size = 0 from rfl] using this
    intro i hi h1 h2
    have hsplit : (encs l).extract 0 a = encs (l.take i) ++ (encs (l.drop i)).extract 0 (a - (encs (l.take i)).size) := by
      conv => lhs; rw [← List.take_append_drop i l, Math.encs_append]
      apply bytes_ext
      rw [L_append, L_extract, L_extract, L_append, List.drop_zero, List.drop_zero, List.take_append, size_data, Nat.sub_zero, Nat.sub_zero]
      congr 1
      rw [List.take_of_length_le (by rw [size_data]; exact h1)]
    have htail : Dec ((encs (l.drop i)).extract 0 (a - (encs (l.take i)).size)) [] 0 := by
      refine .stop ?_
      by_cases hlt' : i < l.length
      · rw [List.drop_eq_getElem_cons hlt']
        simp only [Math.encs]
        have := h2 hlt'
        exact parse_cut _ _ _ (hr _ (List.getElem_mem hlt')) (by omega)
      · rw [List.drop_of_length_le (by omega)]
        unfold parse
        rw [if_pos (by rw [ByteArray.size_extract]; simp [Math.encs, show (⟨#[]⟩ : ByteArray).size = 0 from rfl])]
    have hd2 := dec_encs htail (l.take i) (fun r hm => hr r (List.mem_of_mem_take hm))
    rw [← hsplit, List.append_nil, Nat.add_zero] at hd2
    obtain ⟨rfl, rfl⟩ := dec_fun hd hd2
    exact ⟨rfl, rfl⟩
end Go.Proofs.Ytfiefplalpjlpaa.walTruncation
