/- If one byte of the checksum or of the content of a record is changed, Decode returns exactly the records before it: for every list of strings, every place and every change. -/
import Derived.Test.YtfiefplalpjlpaaSayWalDetectsCorruption
import Derived.Test.YtfiefplalpjlpaaRefs
set_option linter.unusedVariables false
set_option linter.unusedSimpArgs false
namespace Go.Proofs.Ytfiefplalpjlpaa.walDetectsCorruption
open Go.RowKit Go.Proofs.Ytfiefplalpjlpaa.PA Go.Proofs.YtfiefplalpjlpaaW.PrintWords Go.Proofs.YtfiefplalpjlpaaW.PrintLast Go.Proofs.Ytfiefplalpjlpaa.Math

/-- a byte set anew -/
def put (s : ByteArray) (i : Nat) (v : UInt8) : ByteArray := ⟨(s.data.toList.set i v).toArray⟩
theorem L_put (s : ByteArray) (i : Nat) (v : UInt8) : (put s i v).data.toList = s.data.toList.set i v := by simp [put]
theorem put_size (s : ByteArray) (i : Nat) (v : UInt8) : (put s i v).size = s.size := by rw [← size_data, ← size_data, L_put, List.length_set]
theorem put_parts (s : ByteArray) (i : Nat) (hi : i < s.size) (y : Int) : (s.extract 0 i ++ strOfNums [y]) ++ s.extract (i + 1) s.size = put s i (UInt8.ofNat y.toNat) := by
  apply bytes_ext
  rw [L_append, L_append, L_extract, L_extract, L_strOfNums, L_put, List.set_eq_take_append_cons_drop, if_pos (by rw [size_data]; exact hi)]
  rw [List.drop_zero, Nat.sub_zero, List.take_of_length_le (l := s.data.toList.drop (i + 1)) (by rw [List.length_drop, size_data]; omega), List.append_assoc]
  rfl
theorem put_right (a b : ByteArray) (i : Nat) (v : UInt8) (h : a.size ≤ i) : put (a ++ b) i v = a ++ put b (i - a.size) v := by
  apply bytes_ext
  rw [L_put, L_append, L_append, L_put, List.set_append_right _ _ (by rw [size_data]; exact h), size_data]
theorem put_left (a b : ByteArray) (i : Nat) (v : UInt8) (h : i < a.size) : put (a ++ b) i v = put a i v ++ b := by
  apply bytes_ext
  rw [L_put, L_append, L_append, L_put, List.set_append_left _ _ (by rw [size_data]; exact h)]
theorem put_ne (s : ByteArray) (i : Nat) (v : UInt8) (hi : i < s.size) (hv : (v.toNat : Int) ≠ bt s i) : put s i v ≠ s := by
  intro h
  have this : bt (put s i v) i = bt s i := congrArg (fun s => bt s i) h
  rw [bt_list (put s i v), L_put, List.getElem?_set_self (by rw [size_data]; exact hi)] at this
  exact hv this
/-- a content with one byte changed has another checksum -/
theorem ck_put (r : ByteArray) (i : Nat) (v : UInt8) (hi : i < r.size) (hv : (v.toNat : Int) ≠ bt r i) : ck (put r i v) ≠ ck r := by
  intro h
  unfold ck at h
  rw [put_size] at h
  have h0 := hs_range (len4 ((r.size : Int) % 4294967296) ++ put r i v) 2166136261 (by omega) (by omega)
  have h1 := hs_range (len4 ((r.size : Int) % 4294967296) ++ r) 2166136261 (by omega) (by omega)
  have e := len4_inj _ _ h0.1 h0.2 h1.1 h1.2 h
  rw [hs_append, hs_append] at e
  have hst := hs_range (len4 ((r.size : Int) % 4294967296)) 2166136261 (by omega) (by omega)
  have hl : i < r.data.toList.length := by rw [size_data]; exact hi
  have e1 : bytesOf (put r i v) = (bytesOf r).take i ++ (v.toNat : Int) :: (bytesOf r).drop (i + 1) := by
    unfold bytesOf
    rw [L_put, List.set_eq_take_append_cons_drop, if_pos hl, List.map_append, List.map_cons, List.map_take, List.map_drop]
  have e2 : bytesOf r = (bytesOf r).take i ++ bt r i :: (bytesOf r).drop (i + 1) := by
    have hb : i < (bytesOf r).length := by rw [bytesOf_length]; exact hi
    have h2 := rd_bytesOf r i
    unfold rd at h2
    rw [Int.toNat_natCast, List.getD_eq_getElem?_getD, List.getElem?_eq_getElem hb, Option.getD_some] at h2
    rw [← h2, List.getElem_cons_drop, List.take_append_drop]
  unfold Math.hs at e
  have hm : ∀ x ∈ bytesOf r, 0 ≤ x ∧ x ≤ 255 := bytesOf_range r
  rw [e1] at e
  conv at e => rhs; rw [e2]
  have hvr := v.toNat_lt
  have hbr := bt_range r i
  exact hv (hs_changed _ _ _ _ (fun x hx => hm x (List.mem_of_mem_take hx)) (fun x hx => hm x (List.mem_of_mem_drop hx)) (by omega) (by omega) hbr.1 hbr.2 _ hst.1 hst.2 e)
/-- a record of which a byte of the checksum or of the content is changed is none -/
theorem parse_bad (r T : ByteArray) (j : Nat) (v : UInt8) (hr : r.size < 4294967296) (h4 : 4 ≤ j) (hj : j < 8 + r.size) (hv : (v.toNat : Int) ≠ bt (enc r ++ T) j) : parse (put (enc r ++ T) j v) = none := by
  have hl : (len4 (r.size : Int)).size = 4 := len4_size _
  have he : enc r ++ T = len4 r.size ++ (ck r ++ (r ++ T)) := by
    unfold enc
    rw [show ((r.size : Int) % 4294967296) = r.size by omega]
    simp only [ByteArray.append_assoc]
  have hbt : ∀ (a b : ByteArray) (i : Nat), a.size ≤ i → bt (a ++ b) i = bt b ((i - a.size : Nat) : Int) := by
    intro a b i h
    rw [bt_list, bt_list, L_append, List.getElem?_append_right (by rw [size_data]; exact h), size_data]
  have hbl : ∀ (a b : ByteArray) (i : Nat), i < a.size → bt (a ++ b) i = bt a i := by
    intro a b i h
    rw [bt_list, bt_list, L_append, List.getElem?_append_left (by rw [size_data]; exact h)]
  rw [he] at hv ⊢
  rw [put_right _ _ _ _ (by omega), hl]
  rw [hbt _ _ _ (by omega), hl] at hv
  by_cases hc : j < 8
  · rw [put_left _ _ _ _ (by rw [ck_size]; omega)]
    rw [hbl _ _ _ (by rw [ck_size]; omega)] at hv
    have hne := put_ne (ck r) (j - 4) v (by rw [ck_size]; omega) hv
    rw [← ByteArray.append_assoc, ← ByteArray.append_assoc, parse_parts _ _ _ (by rw [put_size, ck_size]) hr, if_neg hne]
  · rw [put_right _ _ _ _ (by rw [ck_size]; omega), ck_size, put_left _ _ _ _ (by omega)]
    rw [hbt _ _ _ (by rw [ck_size]; omega), ck_size, hbl _ _ _ (by omega)] at hv
    have hne := ck_put r (j - 4 - 4) v (by omega) hv
    have hp := parse_parts (ck r) (put r (j - 4 - 4) v) T (ck_size r) (by rw [put_size]; exact hr)
    rw [put_size] at hp
    rw [← ByteArray.append_assoc, ← ByteArray.append_assoc, hp, if_neg (fun h => hne h.symm)]

theorem u8_xor_ne (b c : Int) (hb : 0 ≤ b ∧ b ≤ 255) (hc : 0 ≤ c ∧ c ≤ 255) (h0 : c ≠ 0) : 0 ≤ Go.bits .xor .u8 b c ∧ Go.bits .xor .u8 b c ≤ 255 ∧ Go.bits .xor .u8 b c ≠ b := by
  rw [u8_xor b c hb.1 (by omega) hc.1 (by omega)]
  have h1 := @Nat.xor_lt_two_pow b.toNat c.toNat 8 (by omega) (by omega)
  refine ⟨by omega, by omega, fun h => h0 ?_⟩
  have h2 : b.toNat ^^^ c.toNat = b.toNat ^^^ 0 := by rw [Nat.xor_zero]; omega
  have := xor_right _ _ _ h2
  omega

theorem take_size (l : List ByteArray) (i : Nat) (h : i < l.length) : (encs (l.take (i + 1))).size = (encs (l.take i)).size + 8 + (l[i]).size := by
  rw [List.take_succ_eq_append_getElem h, Math.encs_append, ByteArray.size_append]
  have : Math.encs [l[i]] = enc l[i] := by simp only [Math.encs]; exact append_empty _
  rw [this, enc_size]; omega
/-- the search for the record of byte a, and what Decode then answers -/
theorem loop (l : List ByteArray) (hl : l.length ≤ 40) (ht : total l ≤ 3000) (a : Nat) (ha : a < (encs l).size) (c : Int) (hc : 0 ≤ c ∧ c ≤ 255) (hc0 : c ≠ 0) (d : Nat) :
    ∀ (i k : Nat), i + d = l.length → (encs l).size + l.length + d < k → (encs (l.take i)).size ≤ a → emendatelaw51_WalDetectsCorruption.l0 k l c (encs l) a i ((encs (l.take i)).size : Nat) = some true := by
  induction d with
  | zero =>
    intro i k hi hk h1
    rw [List.take_of_length_le (by omega)] at h1
    omega
  | succ d ih =>
    intro i k hi hk h1
    obtain ⟨k, rfl⟩ : ∃ m, k = m + 1 := ⟨k - 1, by omega⟩
    have hlt : i < l.length := by omega
    have hm := total_mem (List.getElem_mem hlt)
    have hz := encs_size (l.take i)
    have hzl := encs_size l
    have htk : total (l.take i) ≤ total l := by
      have := total_append (l.take i) (l.drop i)
      rw [List.take_append_drop] at this; omega
    have hlk : (l.take i).length = i := by rw [List.length_take]; omega
    have hs := take_size l i hlt
    rw [emendatelaw51_WalDetectsCorruption.l0]
    rw [if_pos (by omega), if_pos (by omega), rd_strings l i hlt, wrap64_small (((encs (l.take i)).size : Int) + 8) (by omega) (by omega)]
    rw [wrap64_small (((encs (l.take i)).size : Int) + 8 + ((l[i]).size : Int)) (by omega) (by omega)]
    by_cases hcl : (encs (l.take i)).size + 8 + (l[i]).size ≤ a
    · rw [if_pos (by omega), wrap64_small ((i : Int) + 1) (by omega) (by omega)]
      have := ih (i + 1) k (by omega) (by omega) (by omega)
      rw [hs] at this
      rw [show (i : Int) + 1 = ((i + 1 : Nat) : Int) by omega, show ((encs (l.take i)).size : Int) + 8 + ((l[i]).size : Int) = (((encs (l.take i)).size + 8 + (l[i]).size : Nat) : Int) by omega]
      exact this
    · rw [if_neg (by omega), wrap64_small (((encs (l.take i)).size : Int) + 4) (by omega) (by omega)]
      by_cases h4 : (a : Int) < ((encs (l.take i)).size : Int) + 4
      · rw [if_pos h4]
      rw [if_neg h4, if_pos (by omega), if_pos (by omega), if_pos (by omega), Option.bind_some]
      have hx := u8_xor_ne (bt (encs l) a) c (bt_range _ _) hc hc0
      generalize Go.bits .xor .u8 (bt (encs l) a) c = y at hx ⊢
      have hy1 : (strOfNums [y]).size = 1 := by rw [← size_data, L_strOfNums]; rfl
      rw [wrap64_small ((a : Int) + 1) (by omega) (by omega), Int.toNat_natCast, show ((a : Int) + 1).toNat = a + 1 by omega]
      rw [if_pos (by rw [ByteArray.size_extract, hy1]; omega), if_pos (by omega), if_pos (by omega)]
      rw [if_pos (by rw [ByteArray.size_append, ByteArray.size_extract, ByteArray.size_extract, hy1]; omega), put_parts (encs l) a ha y]
      have hv : (((UInt8.ofNat y.toNat).toNat : Nat) : Int) = y := u8_nat y hx.1 (by omega)
      generalize hV : UInt8.ofNat y.toNat = V at hv ⊢
      -- the log in parts: before the record, the record, behind it
      have hsp : encs l = encs (l.take i) ++ (enc l[i] ++ encs (l.drop (i + 1))) := by
        conv => lhs; rw [← List.take_append_drop i l, Math.encs_append, List.drop_eq_getElem_cons hlt]
        rfl
      have hlr : (l[i]).size < 4294967296 := by omega
      have hbt : (V.toNat : Int) ≠ bt (enc l[i] ++ encs (l.drop (i + 1))) ((a - (encs (l.take i)).size : Nat) : Int) := by
        rw [hv]
        have e : bt (encs l) a = bt (enc l[i] ++ encs (l.drop (i + 1))) ((a - (encs (l.take i)).size : Nat) : Int) := by
          conv => lhs; rw [hsp]
          rw [bt_list, bt_list, L_append, List.getElem?_append_right (by rw [size_data]; exact h1), size_data]
        rw [← e]; exact hx.2.2
      have hbad := parse_bad l[i] (encs (l.drop (i + 1))) (a - (encs (l.take i)).size) V hlr (by omega) (by omega) hbt
      have hd := dec_encs (.stop hbad) (l.take i) (fun r hr => by have := total_mem (List.mem_of_mem_take hr); omega)
      rw [List.append_nil, Nat.add_zero, ← put_right _ _ _ _ h1, ← hsp] at hd
      rw [decode_f hd (by rw [put_size]; omega) k (by omega) (by omega), Option.bind_some, if_pos (by omega), Int.toNat_natCast, same (l.take i) (by omega) k (by omega), Option.bind_some]
      simp
theorem pure : Pure := by
  intro l p c h hp hc
  obtain ⟨b, hb, hq⟩ := few l (by omega) h.2.2
  obtain ⟨k, hk⟩ : ∃ k, k = (encs l).size + total l + 4 * l.length + 8 := ⟨_, rfl⟩
  refine ⟨k, ?_⟩
  unfold emendatelaw51_WalDetectsCorruption.f
  rw [awake _ (by omega), Option.bind_some, if_pos rfl, hb _ (by omega), Option.bind_some]
  obtain ⟨k, rfl⟩ : ∃ m, k = m + 1 := ⟨k - 1, by omega⟩
  have out : emendatelaw51_WalDetectsCorruption.j0 (k + 1) l p c true = some true := by
    rw [emendatelaw51_WalDetectsCorruption.j0, if_pos rfl]
  cases b with
  | false => rw [if_neg (by decide)]; exact out
  | true =>
    obtain ⟨ht, hl⟩ := hq rfl
    rw [if_pos rfl]
    by_cases hl0 : (l.length : Int) = 0
    · rw [if_pos hl0]; exact out
    rw [if_neg hl0]
    by_cases hc0 : c = 0
    · subst hc0; exact out
    rw [show (c == 0) = false from by simpa using hc0, emendatelaw51_WalDetectsCorruption.j0, if_neg (by decide)]
    have hz := encs_size l
    have hp' := bounds_u16 hp
    have hc' := bounds_u8 hc
    rw [encode_f l (by omega), Option.bind_some, ref_encode l (by omega) (by omega) k (by omega), Option.bind_some, if_pos rfl, if_neg (by omega), wrap64_small p (by omega) (by omega)]
    obtain ⟨a, ha⟩ : ∃ a : Nat, Int.tmod p ((encs l).size : Int) = a := ⟨(Int.tmod p ((encs l).size : Int)).toNat, by rw [Int.toNat_of_nonneg (Int.tmod_nonneg _ (by omega))]⟩
    have hlt : (a : Int) < ((encs l).size : Int) := by rw [← ha]; exact Int.tmod_lt_of_pos _ (by omega)
    rw [ha]
    have := loop l hl ht a (by omega) c (by omega) hc0 l.length 0 k (by omega) (by omega) (by rw [List.take_zero]; exact Nat.zero_le _)
    exact this
end Go.Proofs.Ytfiefplalpjlpaa.walDetectsCorruption
