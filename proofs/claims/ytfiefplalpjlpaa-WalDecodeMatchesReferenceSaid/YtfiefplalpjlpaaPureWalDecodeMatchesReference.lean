/- Decode returns the complete records at the beginning of any log, and the position after them, as the reference does: for every string. -/
import Derived.Test.YtfiefplalpjlpaaSayWalDecodeMatchesReference
import Derived.Test.YtfiefplalpjlpaaRefs
set_option linter.unusedVariables false
set_option linter.unusedSimpArgs false
namespace Go.Proofs.Ytfiefplalpjlpaa.walDecodeMatchesReference
open Go.RowKit Go.Proofs.Ytfiefplalpjlpaa.PA Go.Proofs.YtfiefplalpjlpaaW.PrintWords Go.Proofs.YtfiefplalpjlpaaW.PrintLast Go.Proofs.Ytfiefplalpjlpaa.Math

theorem num_wrap (y0 y1 y2 y3 : Int) (h0 : 0 ≤ y0 ∧ y0 ≤ 255) (h1 : 0 ≤ y1 ∧ y1 ≤ 255) (h2 : 0 ≤ y2 ∧ y2 ≤ 255) (h3 : 0 ≤ y3 ∧ y3 ≤ 255) :
    wrap64 (wrap64 (wrap64 (wrap64 y0 + wrap64 (wrap64 y1 * 256)) + wrap64 (wrap64 y2 * 65536)) + wrap64 (wrap64 y3 * 16777216)) = y0 + y1 * 256 + y2 * 65536 + y3 * 16777216 := by
  have w0 : wrap64 y0 = y0 := wrap64_small _ (by omega) (by omega)
  have w1 : wrap64 y1 = y1 := wrap64_small _ (by omega) (by omega)
  have w2 : wrap64 y2 = y2 := wrap64_small _ (by omega) (by omega)
  have w3 : wrap64 y3 = y3 := wrap64_small _ (by omega) (by omega)
  rw [w0, w1, w2, w3]
  have v1 : wrap64 (y1 * 256) = y1 * 256 := wrap64_small _ (by omega) (by omega)
  have v2 : wrap64 (y2 * 65536) = y2 * 65536 := wrap64_small _ (by omega) (by omega)
  have v3 : wrap64 (y3 * 16777216) = y3 * 16777216 := wrap64_small _ (by omega) (by omega)
  rw [v1, v2, v3]
  have u1 : wrap64 (y0 + y1 * 256) = y0 + y1 * 256 := wrap64_small _ (by omega) (by omega)
  rw [u1]
  have u2 : wrap64 (y0 + y1 * 256 + y2 * 65536) = y0 + y1 * 256 + y2 * 65536 := wrap64_small _ (by omega) (by omega)
  rw [u2]
  exact wrap64_small _ (by omega) (by omega)
theorem small_add (a : Nat) (c : Int) (ha : a ≤ 3000) (h0 : 0 ≤ c) (h1 : c ≤ 4294970000) : wrap64 ((a : Int) + c) = (a : Int) + c := wrap64_small _ (by omega) (by omega)
theorem num_at (x : ByteArray) (a : Nat) (h : a + 8 ≤ x.size) :
    wrap64 (wrap64 (wrap64 (wrap64 (bt x a) + wrap64 (wrap64 (bt x ((a : Int) + 1)) * 256)) + wrap64 (wrap64 (bt x ((a : Int) + 2)) * 65536)) + wrap64 (wrap64 (bt x ((a : Int) + 3)) * 16777216)) = num (x.extract a x.size) := by
  have b0 := bt_extract x a 0 (by omega) (by omega)
  have b1 := bt_extract x a 1 (by omega) (by omega)
  have b2 := bt_extract x a 2 (by omega) (by omega)
  have b3 := bt_extract x a 3 (by omega) (by omega)
  rw [Int.add_zero] at b0
  rw [num_wrap _ _ _ _ (bt_range x _) (bt_range x _) (bt_range x _) (bt_range x _)]
  unfold num
  rw [b0, b1, b2, b3]
theorem ref_step (x : ByteArray) (hx : x.size ≤ 3000) (k : Nat) (hk : x.size < k) (acc : List ByteArray) (a : Nat) (ha : a ≤ x.size) :
    emendateref51_Decode.l0 (k + 1) x acc a = match parse (x.extract a x.size) with
      | none => some (acc, (a : Int))
      | some r => if acc.length < 8796093022208 then emendateref51_Decode.l0 k x (acc ++ [r]) ((a + (8 + r.size) : Nat) : Int) else none := by
  have hz : (x.extract a x.size).size = x.size - a := by rw [ByteArray.size_extract]; omega
  have hn := num_range (x.extract a x.size)
  have ha3 : a ≤ 3000 := by omega
  rw [emendateref51_Decode.l0]
  rw [wrap64_small ((x.size : Int) - a) (by omega) (by omega)]
  by_cases h8 : (x.extract a x.size).size < 8
  · rw [if_neg (by omega)]
    unfold parse; rw [if_pos h8]
  rw [small_add a 1 ha3 (by decide) (by decide), small_add a 2 ha3 (by decide) (by decide), small_add a 3 ha3 (by decide) (by decide), small_add a 4 ha3 (by decide) (by decide), small_add a 8 ha3 (by decide) (by decide), num_at x a (by omega)]
  have h4 := four (x.extract a x.size) (by omega)
  rw [extract3 x a 0 4 (by omega)] at h4
  have f8 := extract3 x a 4 8 (by omega)
  have hr : num (x.extract a x.size) ≤ ((x.extract a x.size).size : Int) - 8 → (x.extract a x.size).extract 8 (8 + (num (x.extract a x.size)).toNat) = x.extract (a + 8) (a + (8 + (num (x.extract a x.size)).toNat)) := fun h => extract3 x a 8 _ (by omega)
  unfold parse
  rw [if_neg h8, f8]
  generalize num (x.extract a x.size) = N at *
  rw [if_pos (by omega), if_pos (by omega), if_pos (by omega), if_pos (by omega), if_pos (by omega), if_pos (by omega), if_pos (by omega), if_pos (by omega), if_pos (by omega), wrap64_small ((x.size : Int) - a - 8) (by omega) (by omega)]
  by_cases h2 : N > ((x.extract a x.size).size : Int) - 8
  · rw [if_pos (by omega), if_pos h2]
  have hr := hr (by omega)
  rw [if_neg (by omega), if_neg h2, hr]
  have w1 : wrap64 ((a : Int) + 8 + N) = (a : Int) + (8 + N) := by rw [Int.add_assoc]; exact small_add a _ ha3 (by omega) (by omega)
  have w2 : wrap64 (8 + N) = 8 + N := wrap64_small _ (by omega) (by omega)
  rw [w1]
  clear w1 w2
  have t0 : ((a : Int)).toNat = a := by omega
  have t4 : ((a : Int) + 4).toNat = a + 4 := by omega
  have t8 : ((a : Int) + 8).toNat = a + 8 := by omega
  have tn : ((a : Int) + (8 + N)).toNat = a + (8 + N.toNat) := by omega
  rw [t0, t4, t8, tn]
  clear t0 t4 t8 tn
  rw [Nat.add_zero] at h4
  rw [h4]
  have hs_ : (x.extract (a + 8) (a + (8 + N.toNat))).size = N.toNat := by rw [ByteArray.size_extract]; omega
  rw [if_pos (by omega), if_pos (by omega), if_pos (by omega), if_pos (by omega), if_pos (by omega), if_pos (by omega), if_pos (by omega), if_pos (by omega), if_pos (by rw [len4_size, hs_]; omega)]
  rw [ref_hash _ (by rw [ByteArray.size_append, len4_size, hs_]; omega) k (by rw [ByteArray.size_append, len4_size, hs_]; omega)]; simp only [Option.bind_some]
  rw [little_f]; simp only [Option.bind_some]
  have hck : ck (x.extract (a + 8) (a + (8 + N.toNat))) = len4 (hs 2166136261 (len4 N ++ x.extract (a + 8) (a + (8 + N.toNat)))) := by
    unfold ck
    rw [hs_, show ((N.toNat : Nat) : Int) % 4294967296 = N by omega]
  rw [hck]
  by_cases h3 : x.extract (a + 4) (a + 8) = len4 (hs 2166136261 (len4 N ++ x.extract (a + 8) (a + (8 + N.toNat))))
  · rw [if_pos (congrArg ByteArray.toList h3), if_pos h3]
    simp only []
    rw [hs_, show (a : Int) + (8 + N) = ((a + (8 + N.toNat) : Nat) : Int) by omega]
  · rw [if_neg (fun h => h3 (ext_toList h)), if_neg h3]
theorem ref_dec {s : ByteArray} {l : List ByteArray} {m : Nat} (h : Dec s l m) : ∀ (x : ByteArray) (a : Nat) (acc : List ByteArray) (k : Nat), x.size ≤ 3000 → s = x.extract a x.size → a ≤ x.size →
    acc.length + l.length < 8796093022208 → x.size + l.length + 1 < k → emendateref51_Decode.l0 k x acc a = some (acc ++ l, ((a + m : Nat) : Int)) := by
  induction h with
  | @stop s hp =>
    intro x a acc k hx he ha hl hk
    subst he
    obtain ⟨k, rfl⟩ : ∃ j, k = j + 1 := ⟨k - 1, by omega⟩
    rw [List.length_nil] at hk
    rw [ref_step x hx k (by omega) acc a ha, hp]
    simp
  | @more s r l m hp _ ih =>
    intro x a acc k hx he ha hl hk
    subst he
    obtain ⟨k, rfl⟩ : ∃ j, k = j + 1 := ⟨k - 1, by omega⟩
    rw [List.length_cons] at hl hk
    obtain ⟨h8, _, _, _, _, hz⟩ := parse_some hp
    have hz2 : (x.extract a x.size).size = x.size - a := by rw [ByteArray.size_extract]; omega
    rw [ref_step x hx k (by omega) acc a ha, hp]
    simp only []
    rw [if_pos (by omega), ih x (a + (8 + r.size)) (acc ++ [r]) k hx (extract2 x a _) (by omega) (by simp; omega) (by omega)]
    simp [Nat.add_assoc]
theorem ref_decode {s : ByteArray} {l : List ByteArray} {m : Nat} (h : Dec s l m) (hs : s.size ≤ 3000) (k : Nat) (hl : l.length < 8796093022208) (hk : s.size + l.length + 1 < k) : emendateref51_Decode.f k s = some (l, (m : Int)) := by
  unfold emendateref51_Decode.f
  have := ref_dec h s 0 [] k hs (by rw [ByteArray.extract_zero_size]) (by omega) (by simpa using hl) hk
  simpa using this
theorem pure : Pure := by
  intro s hs
  obtain ⟨k, hk⟩ : ∃ k, k = 2 * s.size + 8 := ⟨_, rfl⟩
  refine ⟨k, ?_⟩
  unfold emendatelaw51_WalDecodeMatchesReference.f
  rw [awake _ (by omega)]; simp only [Option.bind_some]
  simp only [if_true]
  by_cases h3 : (s.size : Int) > 3000
  · rw [if_pos h3]
  obtain ⟨l, m, hd, hm, hl⟩ := dec_all s.size s (Nat.le_refl _)
  rw [if_neg h3, decode_f hd (by omega) _ (by omega) (by omega)]; simp only [Option.bind_some]
  rw [ref_decode hd (by omega) _ (by omega) (by omega)]; simp only [Option.bind_some]
  rw [same l (by omega) _ (by omega)]; simp only [Option.bind_some, if_true]
  simp
end Go.Proofs.Ytfiefplalpjlpaa.walDecodeMatchesReference
