/- The write-ahead log as plain mathematics on byte strings: little-endian words, the FNV-1a hash as a function that parts different bytes, an encoding's parts; no program beyond the printed functions. -/
import Derived.Test.YtfiefplalpjlpaaPAx5
import Derived.Test.YtfiefplalpjlpaaPAx11
import Derived.Test.YtfiefplalpjlpaaPAx15
import Derived.Test.YtfiefplalpjlpaaPAx16
import Derived.Laws.BitsAllLaws
set_option linter.unusedVariables false
namespace Go.Proofs.Ytfiefplalpjlpaa.Math
open Go.RowKit Go.Proofs.Ytfiefplalpjlpaa.PA Go.Proofs.YtfiefplalpjlpaaW.PrintWords

theorem size_data (s : ByteArray) : s.data.toList.length = s.size := data_length s
theorem bytes_ext {a b : ByteArray} (h : a.data.toList = b.data.toList) : a = b := WideShapes.bytes_inj h
theorem size_mk (l : List UInt8) : (⟨l.toArray⟩ : ByteArray).size = l.length := by simp [ByteArray.size]
theorem ext_toList {a b : ByteArray} (h : a.toList = b.toList) : a = b := by
  rw [ByteArray.toList_eq, ByteArray.toList_eq] at h
  exact bytes_ext h

/-- four bytes, the lowest first -/
def len4 (n : Int) : ByteArray := strOfNums [n % 256, n / 256 % 256, n / 65536 % 256, n / 16777216 % 256]
theorem len4_size (n : Int) : (len4 n).size = 4 := by simp [len4, strOfNums, ByteArray.size]

theorem u8_nat (x : Int) (h0 : 0 ≤ x) (h1 : x < 256) : ((UInt8.ofNat x.toNat).toNat : Int) = x := by
  rw [UInt8.toNat_ofNat']
  omega
theorem len4_bytes (n : Int) : bytesOf (len4 n) = [n % 256, n / 256 % 256, n / 65536 % 256, n / 16777216 % 256] := by
  simp only [bytesOf, len4, strOfNums, List.map_cons, List.map_nil, List.toList_toArray]
  rw [u8_nat _ (by omega) (by omega), u8_nat _ (by omega) (by omega), u8_nat _ (by omega) (by omega), u8_nat _ (by omega) (by omega)]
theorem bytesOf_inj {a b : ByteArray} (h : bytesOf a = bytesOf b) : a = b := by
  apply bytes_ext
  unfold bytesOf at h
  have hf : Function.Injective (fun b : UInt8 => (b.toNat : Int)) := fun x y e => UInt8.toNat_inj.1 (by have e' : (x.toNat : Int) = (y.toNat : Int) := e; omega)
  exact (List.map_inj_right (fun x y e => hf e)).1 h
theorem bytesOf_append (a b : ByteArray) : bytesOf (a ++ b) = bytesOf a ++ bytesOf b := by
  simp [bytesOf, ByteArray.data_append]
theorem bytesOf_range (s : ByteArray) : ∀ x ∈ bytesOf s, 0 ≤ x ∧ x ≤ 255 := by
  intro x hx
  simp only [bytesOf, List.mem_map] at hx
  obtain ⟨b, _, rfl⟩ := hx
  have := b.toNat_lt
  omega

/-- the number of the first four bytes -/
def num (s : ByteArray) : Int := bt s 0 + bt s 1 * 256 + bt s 2 * 65536 + bt s 3 * 16777216
theorem num_range (s : ByteArray) : 0 ≤ num s ∧ num s < 4294967296 := by
  have h0 := bt_range s 0; have h1 := bt_range s 1; have h2 := bt_range s 2; have h3 := bt_range s 3
  unfold num; omega
theorem wrap_u64 (x : Int) (h0 : 0 ≤ x) (h1 : x < 18446744073709551616) : IntKind.u64.wrap x = x := by
  simp [IntKind.wrap, IntKind.bits, IntKind.signed]; omega
theorem or_join (x y : Int) (i : Nat) (hx0 : 0 ≤ x) (hx : x % 2 ^ i = 0) (hx1 : x < 4294967296) (hy0 : 0 ≤ y) (hy : y < 2 ^ i) (hy1 : y < 4294967296) : Go.bits .or .u64 x y = x + y := by
  refine bits_join .u64 32 (by decide) (fun n h0 h1 => ?_) i x y hx0 hx (by simpa using hx1) hy0 hy (by simpa using hy1)
  have : (2 : Int) ^ 32 = 4294967296 := by decide
  exact wrap_u64 n h0 (by omega)
theorem or_comm (x y : Int) : Go.bits .or .u64 x y = Go.bits .or .u64 y x := by
  simp only [Go.bits, BitVec.or_comm]
theorem number_f (s : ByteArray) (h : 4 ≤ s.size) : wal_number.f s = some (num s) := by
  have h0 := bt_range s 0; have h1 := bt_range s 1; have h2 := bt_range s 2; have h3 := bt_range s 3
  unfold wal_number.f
  rw [if_pos (by omega), if_pos (by omega), if_pos (by omega), if_pos (by omega)]
  rw [wrap_u64 (bt s 0) (by omega) (by omega), wrap_u64 (bt s 1) (by omega) (by omega), wrap_u64 (bt s 2) (by omega) (by omega), wrap_u64 (bt s 3) (by omega) (by omega)]
  rw [wrap_u64 (bt s 1 * 256) (by omega) (by omega), wrap_u64 (bt s 2 * 65536) (by omega) (by omega), wrap_u64 (bt s 3 * 16777216) (by omega) (by omega)]
  rw [or_comm (bt s 0), or_join (bt s 1 * 256) (bt s 0) 8 (by omega) (by omega) (by omega) (by omega) (by omega) (by omega)]
  rw [or_comm (bt s 1 * 256 + bt s 0), or_join (bt s 2 * 65536) _ 16 (by omega) (by omega) (by omega) (by omega) (by omega) (by omega)]
  rw [or_comm (bt s 2 * 65536 + _), or_join (bt s 3 * 16777216) _ 24 (by omega) (by omega) (by omega) (by omega) (by omega) (by omega)]
  unfold num
  congr 1; omega

/-! the hash -/
def hs (h : Int) (s : ByteArray) : Int := (bytesOf s).foldl wal_hash_add.step h
theorem hs_append (h : Int) (a b : ByteArray) : hs h (a ++ b) = hs (hs h a) b := by
  unfold hs; rw [bytesOf_append, List.foldl_append]
theorem step_range (h b : Int) : 0 ≤ wal_hash_add.step h b ∧ wal_hash_add.step h b < 4294967296 := by
  unfold wal_hash_add.step; omega
theorem fold_range (l : List Int) (h : Int) (h0 : 0 ≤ h) (h1 : h < 4294967296) : 0 ≤ l.foldl wal_hash_add.step h ∧ l.foldl wal_hash_add.step h < 4294967296 := by
  induction l generalizing h with
  | nil => exact ⟨h0, h1⟩
  | cons b l ih => exact ih _ (step_range h b).1 (step_range h b).2
theorem hs_range (s : ByteArray) (h : Int) (h0 : 0 ≤ h) (h1 : h < 4294967296) : 0 ≤ hs h s ∧ hs h s < 4294967296 := fold_range _ h h0 h1
/-- the step as an exclusive or and a product -/
theorem step_eq (h b : Int) (h0 : 0 ≤ h) (h1 : h < 4294967296) (b0 : 0 ≤ b) (b1 : b ≤ 255) : wal_hash_add.step h b = ((h.toNat ^^^ b.toNat : Nat) : Int) * 16777619 % 4294967296 := by
  unfold wal_hash_add.step
  rw [show b % 4294967296 = b by omega, u32_xor h b h0 h1 b0 (by omega)]
theorem xor_lt (a b : Nat) (ha : a < 4294967296) (hb : b < 4294967296) : a ^^^ b < 4294967296 := by
  have h := @Nat.xor_lt_two_pow a b 32 (by simpa using ha) (by simpa using hb)
  simpa using h
/-- the product with an odd number parts what differs -/
theorem mul_inj (x y : Int) (hx0 : 0 ≤ x) (hx : x < 4294967296) (hy0 : 0 ≤ y) (hy : y < 4294967296) (h : x * 16777619 % 4294967296 = y * 16777619 % 4294967296) : x = y := by
  have e1 := Int.mul_ediv_add_emod (x * 16777619) 4294967296
  have e2 := Int.mul_ediv_add_emod (y * 16777619) 4294967296
  rw [h] at e1
  generalize x * 16777619 / 4294967296 = q1 at e1
  generalize y * 16777619 / 4294967296 = q2 at e2
  generalize y * 16777619 % 4294967296 = r at e1 e2
  clear h
  obtain ⟨u, hu⟩ : ∃ u, x - y = 4294967296 * u := ⟨899433627 * (q1 - q2) - 3513497 * (x - y), by omega⟩
  clear e1 e2
  omega
theorem xor_left (a b c : Nat) (h : a ^^^ c = b ^^^ c) : a = b := by
  have := congrArg (· ^^^ c) h
  simpa [Nat.xor_assoc] using this
theorem xor_right (a b c : Nat) (h : a ^^^ b = a ^^^ c) : b = c := by
  rw [Nat.xor_comm a b, Nat.xor_comm a c] at h
  exact xor_left b c a h
theorem step_inj_h (h h' b : Int) (h0 : 0 ≤ h) (h1 : h < 4294967296) (k0 : 0 ≤ h') (k1 : h' < 4294967296) (b0 : 0 ≤ b) (b1 : b ≤ 255) (e : wal_hash_add.step h b = wal_hash_add.step h' b) : h = h' := by
  rw [step_eq h b h0 h1 b0 b1, step_eq h' b k0 k1 b0 b1] at e
  have x1 := xor_lt h.toNat b.toNat (by omega) (by omega)
  have x2 := xor_lt h'.toNat b.toNat (by omega) (by omega)
  have e2 : h.toNat ^^^ b.toNat = h'.toNat ^^^ b.toNat := by
    have := mul_inj _ _ (Int.natCast_nonneg _) (by omega) (Int.natCast_nonneg _) (by omega) e
    exact Int.ofNat_inj.1 this
  have e3 := xor_left _ _ _ e2
  omega
theorem step_inj_b (h b b' : Int) (h0 : 0 ≤ h) (h1 : h < 4294967296) (b0 : 0 ≤ b) (b1 : b ≤ 255) (c0 : 0 ≤ b') (c1 : b' ≤ 255) (e : wal_hash_add.step h b = wal_hash_add.step h b') : b = b' := by
  rw [step_eq h b h0 h1 b0 b1, step_eq h b' h0 h1 c0 c1] at e
  have x1 := xor_lt h.toNat b.toNat (by omega) (by omega)
  have x2 := xor_lt h.toNat b'.toNat (by omega) (by omega)
  have e2 : h.toNat ^^^ b.toNat = h.toNat ^^^ b'.toNat := by
    have := mul_inj _ _ (Int.natCast_nonneg _) (by omega) (Int.natCast_nonneg _) (by omega) e
    exact Int.ofNat_inj.1 this
  have e3 := xor_right _ _ _ e2
  omega
theorem fold_inj (l : List Int) (hl : ∀ x ∈ l, 0 ≤ x ∧ x ≤ 255) (h h' : Int) (h0 : 0 ≤ h) (h1 : h < 4294967296) (k0 : 0 ≤ h') (k1 : h' < 4294967296) (e : l.foldl wal_hash_add.step h = l.foldl wal_hash_add.step h') : h = h' := by
  induction l generalizing h h' with
  | nil => exact e
  | cons b l ih =>
    have hb := hl b (List.mem_cons_self ..)
    have := ih (fun x hx => hl x (List.mem_cons_of_mem _ hx)) _ _ (step_range h b).1 (step_range h b).2 (step_range h' b).1 (step_range h' b).2 e
    exact step_inj_h h h' b h0 h1 k0 k1 hb.1 hb.2 this
/-- one byte changed: another hash -/
theorem hs_changed (l r : List Int) (b b' : Int) (hl : ∀ x ∈ l, 0 ≤ x ∧ x ≤ 255) (hr : ∀ x ∈ r, 0 ≤ x ∧ x ≤ 255) (b0 : 0 ≤ b) (b1 : b ≤ 255) (c0 : 0 ≤ b') (c1 : b' ≤ 255) (h : Int) (h0 : 0 ≤ h) (h1 : h < 4294967296)
    (e : (l ++ b :: r).foldl wal_hash_add.step h = (l ++ b' :: r).foldl wal_hash_add.step h) : b = b' := by
  rw [List.foldl_append, List.foldl_append] at e
  have hf := fold_range l h h0 h1
  have e1 := fold_inj r hr _ _ (step_range _ b).1 (step_range _ b).2 (step_range _ b').1 (step_range _ b').2 e
  exact step_inj_b _ b b' hf.1 hf.2 b0 b1 c0 c1 e1
theorem len4_inj (n m : Int) (n0 : 0 ≤ n) (n1 : n < 4294967296) (m0 : 0 ≤ m) (m1 : m < 4294967296) (e : len4 n = len4 m) : n = m := by
  have := congrArg bytesOf e
  rw [len4_bytes, len4_bytes] at this
  simp only [List.cons.injEq, and_true] at this
  omega

/-! the reference's hash is the same -/
theorem wrap64_small (x : Int) (h0 : -9223372036854775808 ≤ x) (h1 : x < 9223372036854775808) : wrap64 x = x := by unfold wrap64; omega
theorem i64_xor (a b : Int) (h0 : 0 ≤ a) (h1 : a < 4294967296) (b0 : 0 ≤ b) (b1 : b < 4294967296) : Go.bits .xor .i64 a b = ((a.toNat ^^^ b.toNat : Nat) : Int) := by
  obtain ⟨x, rfl⟩ := Int.eq_ofNat_of_zero_le h0
  obtain ⟨y, rfl⟩ := Int.eq_ofNat_of_zero_le b0
  have hx := xor_lt x y (by omega) (by omega)
  have e : (BitVec.ofInt 64 (x : Int) ^^^ BitVec.ofInt 64 (y : Int)).toNat = x ^^^ y := by
    rw [BitVec.toNat_xor, BitVec.ofInt_natCast, BitVec.ofInt_natCast, BitVec.toNat_ofNat, BitVec.toNat_ofNat, Nat.mod_eq_of_lt (by omega), Nat.mod_eq_of_lt (by omega)]
  show IntKind.i64.wrap ((BitVec.ofInt 64 (x : Int) ^^^ BitVec.ofInt 64 (y : Int)).toNat : Int) = _
  rw [e, IntKind.wrap_i64, Int.toNat_natCast, Int.toNat_natCast]
  omega
theorem ref_step (h b : Int) (h0 : 0 ≤ h) (h1 : h < 4294967296) (b0 : 0 ≤ b) (b1 : b ≤ 255) :
    Go.bits .and .i64 (wrap64 ((Go.bits .xor .i64 h (wrap64 b)) * 16777619)) 4294967295 = wal_hash_add.step h b := by
  have x1 := xor_lt h.toNat b.toNat (by omega) (by omega)
  rw [wrap64_small b (by omega) (by omega), i64_xor h b h0 h1 b0 (by omega), wrap64_small _ (by omega) (by omega), step_eq h b h0 h1 b0 b1]
  have p62 : (2 : Int) ^ 62 = 4611686018427387904 := by decide
  have e : (2 : Int) ^ 32 = 4294967296 := by decide
  have := bits_mask .i64 62 (by decide) (fun n h0 h1 => by rw [IntKind.wrap_i64]; omega) 32 (by decide) (((h.toNat ^^^ b.toNat : Nat) : Int) * 16777619) (by omega) (by omega)
  rw [e] at this
  exact this
theorem hash_loop (s : ByteArray) (hs : s.size ≤ 9223372036854775806) (d : Nat) : ∀ (k : Nat) (h i : Int), 0 ≤ h → h < 4294967296 → 0 ≤ i → (s.size : Int) - i = d → d < k →
    emendateref51_Hash.l0 k s h i = some (((bytesOf s).drop i.toNat).foldl wal_hash_add.step h) := by
  induction d with
  | zero =>
    intro k h i h0 h1 i0 hd hk
    obtain ⟨k, rfl⟩ : ∃ m, k = m + 1 := ⟨k - 1, by omega⟩
    simp only [emendateref51_Hash.l0]; rw [if_neg (by omega)]
    rw [List.drop_of_length_le (by rw [bytesOf_length]; omega)]; rfl
  | succ d ih =>
    intro k h i h0 h1 i0 hd hk
    obtain ⟨k, rfl⟩ : ∃ m, k = m + 1 := ⟨k - 1, by omega⟩
    have hb := bt_range s i
    simp only [emendateref51_Hash.l0]; rw [if_pos (by omega), if_pos i0, ref_step h _ h0 h1 hb.1 hb.2, wrap64_small (i + 1) (by omega) (by omega)]
    rw [ih k _ (i + 1) (step_range _ _).1 (step_range _ _).2 (by omega) (by omega) (by omega)]
    have hl : i.toNat < (bytesOf s).length := by rw [bytesOf_length]; omega
    rw [List.drop_eq_getElem_cons hl, List.foldl_cons, show (i + 1).toNat = i.toNat + 1 by omega]
    congr 3
    have := rd_bytesOf s i
    rw [← this]; unfold rd
    rw [List.getD_eq_getElem?_getD, List.getElem?_eq_getElem hl]; rfl
theorem ref_hash (s : ByteArray) (hz : s.size ≤ 9223372036854775806) : ∀ k, s.size < k → emendateref51_Hash.f k s = some (hs 2166136261 s) := by
  intro k hk
  unfold emendateref51_Hash.f
  rw [hash_loop s hz s.size k _ 0 (by omega) (by omega) (by omega) (by omega) hk]; rfl

/-! an encoding -/
def ck (r : ByteArray) : ByteArray := len4 (hs 2166136261 (len4 ((r.size : Int) % 4294967296) ++ r))
def enc (r : ByteArray) : ByteArray := len4 ((r.size : Int) % 4294967296) ++ ck r ++ r
theorem ck_size (r : ByteArray) : (ck r).size = 4 := len4_size _
theorem enc_size (r : ByteArray) : (enc r).size = 8 + r.size := by
  unfold enc; rw [ByteArray.size_append, ByteArray.size_append, len4_size, ck_size]
theorem length_f (r : ByteArray) : wal_length.f r = some (len4 ((r.size : Int) % 4294967296)) := rfl
theorem checksum_f (r : ByteArray) (h : r.size ≤ 9223372036854775807) : wal_checksum.f r = some (ck r) := by
  unfold wal_checksum.f
  rw [length_f]; simp only [Option.bind_some]
  unfold wal_hash_add.f
  rw [if_pos (by rw [len4_size]; omega)]; simp only [Option.bind_some]
  rw [if_pos h]; simp only [Option.bind_some]
  unfold ck; rw [hs_append]; rfl
theorem append_f (a r : ByteArray) (h : a.size + 8 + r.size ≤ 9223372036854775807) : wal_Append.f a r = some (a ++ enc r) := by
  unfold wal_Append.f
  rw [length_f]; simp only [Option.bind_some]
  rw [if_pos (by rw [len4_size]; omega), checksum_f r (by omega)]; simp only [Option.bind_some]
  rw [if_pos (by rw [ByteArray.size_append, len4_size, ck_size]; omega), if_pos (by rw [ByteArray.size_append, ByteArray.size_append, len4_size, ck_size]; omega)]
  unfold enc
  simp only [ByteArray.append_assoc]
theorem little_f (n : Int) : emendateref51_Little.f n = some (len4 n) := rfl
theorem len4_mod (n : Int) : len4 (n % 4294967296) = len4 n := by
  apply bytesOf_inj
  rw [len4_bytes, len4_bytes]
  congr 1
  · omega
  congr 1
  · omega
  congr 1
  · omega
  congr 1
  omega
end Go.Proofs.Ytfiefplalpjlpaa.Math
