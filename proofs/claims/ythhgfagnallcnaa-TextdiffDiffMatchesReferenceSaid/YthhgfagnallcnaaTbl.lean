/- The filled table holds the distances of all pairs of suffixes (plain Lean over the pure summary of the table). -/
import Derived.Test.YthhgfagnallcnaaFil
import Derived.Test.YthhgfagnallcnaaEds
namespace Go.Proofs.Ythhgfagnallcnaa.Tbl
open Go.RowKit Go.Proofs.YthhgfagnallcnaaW.PrintWords Go.Proofs.Ythhgfagnallcnaa.Eds
set_option linter.unusedVariables false

/-- the bytes of a string, as a list -/
def B (a : ByteArray) : L := a.data.toList
theorem B_len (a : ByteArray) : (B a).length = a.size := rfl
theorem B_drop {a : ByteArray} {i : Nat} (h : i < a.size) : (B a).drop i = (B a)[i]'h :: (B a).drop (i + 1) := List.drop_eq_getElem_cons h
theorem bt_B {a : ByteArray} {i : Nat} (h : i < a.size) : bt a (i : Int) = (((B a)[i]'h).toNat : Int) := by
  unfold bt
  rw [dif_pos (show (i : Int).toNat < a.size from h)]
  rfl
theorem bt_eq {a b : ByteArray} {i j : Nat} (hi : i < a.size) (hj : j < b.size) : bt a (i : Int) = bt b (j : Int) ↔ (B a)[i]'hi = (B b)[j]'hj := by
  rw [bt_B hi, bt_B hj]
  constructor
  · intro h; exact UInt8.toNat_inj.1 (by omega)
  · intro h; rw [h]

/-- the suffix distance at (i, j) -/
def C (a b : ByteArray) (i j : Nat) : Nat := D ((B a).drop i) ((B b).drop j)
theorem C_le (a b : ByteArray) (i j : Nat) : C a b i j ≤ a.size + b.size := by
  unfold C
  refine Nat.le_trans (D_size _ _) ?_
  rw [List.length_drop, List.length_drop, B_len, B_len]; omega
theorem C_left (a b : ByteArray) {i j : Nat} (h : i = a.size) : C a b i j = b.size - j := by
  unfold C
  rw [List.drop_of_length_le (by rw [B_len]; omega), D_nil, List.length_drop, B_len]
theorem C_right (a b : ByteArray) {i j : Nat} (h : j = b.size) : C a b i j = a.size - i := by
  unfold C
  rw [List.drop_of_length_le (l := B b) (by rw [B_len]; omega), D_nil', List.length_drop, B_len]
theorem C_same {a b : ByteArray} {i j : Nat} (hi : i < a.size) (hj : j < b.size) (h : bt a (i : Int) = bt b (j : Int)) : C a b i j = C a b (i + 1) (j + 1) := by
  unfold C
  rw [B_drop hi, B_drop hj, (bt_eq hi hj).1 h, D_same]
theorem C_ne {a b : ByteArray} {i j : Nat} (hi : i < a.size) (hj : j < b.size) (h : ¬ bt a (i : Int) = bt b (j : Int)) : C a b i j = 1 + min (C a b (i + 1) j) (C a b i (j + 1)) := by
  unfold C
  rw [B_drop hi, B_drop hj, D_ne (fun e => h ((bt_eq hi hj).2 e))]

theorem rd_set_ne (xs : List Int) (p q : Nat) (v : Int) (h : p ≠ q) : rd (xs.set p v) (q : Int) = rd xs (q : Int) := by
  unfold rd
  rw [Int.toNat_natCast, List.getD_eq_getElem?_getD, List.getD_eq_getElem?_getD, List.getElem?_set_ne h]
theorem rd_set_eq (xs : List Int) (p : Nat) (v : Int) (h : p < xs.length) : rd (xs.set p v) (p : Int) = v := by
  unfold rd
  rw [Int.toNat_natCast, List.getD_eq_getElem?_getD, List.getElem?_set_self h]
  rfl

/-- the value of a round, from the cells behind it -/
theorem val_C {a b : ByteArray} (ha : a.size ≤ 1000) (hb : b.size ≤ 1000) (cost : List Int) (i j : Nat) (hi : i ≤ a.size) (hj : j ≤ b.size)
    (h : ∀ p q : Nat, p ≤ a.size → q ≤ b.size → i * (b.size + 1) + j < p * (b.size + 1) + q → rd cost ((p * (b.size + 1) + q : Nat) : Int) = C a b p q) :
    Of.val a b cost i j = C a b i j := by
  unfold Of.val
  have e1 : (((i : Int) + 1) * ((b.size : Int) + 1) + ((j : Int) + 1)) = (((i + 1) * (b.size + 1) + (j + 1) : Nat) : Int) := by simp
  have e2 : (((i : Int) + 1) * ((b.size : Int) + 1) + (j : Int)) = (((i + 1) * (b.size + 1) + j : Nat) : Int) := by simp
  have e3 : ((i : Int) * ((b.size : Int) + 1) + ((j : Int) + 1)) = ((i * (b.size + 1) + (j + 1) : Nat) : Int) := by simp
  have m1 : (i + 1) * (b.size + 1) = i * (b.size + 1) + (b.size + 1) := Nat.succ_mul _ _
  by_cases c1 : i = a.size
  · rw [if_pos c1, C_left a b c1]; omega
  · rw [if_neg c1]
    by_cases c2 : j = b.size
    · rw [if_pos c2, C_right a b c2]; omega
    · rw [if_neg c2]
      by_cases c3 : bt a (i : Int) = bt b (j : Int)
      · rw [if_pos c3, e1, h (i + 1) (j + 1) (by omega) (by omega) (by omega), C_same (by omega) (by omega) c3]
      · rw [if_neg c3, e2, e3, h (i + 1) j (by omega) (by omega) (by omega), h i (j + 1) (by omega) (by omega) (by omega), C_ne (by omega) (by omega) c3]
        have b1 := C_le a b (i + 1) j
        have b2 := C_le a b i (j + 1)
        generalize C a b (i + 1) j = x at *
        generalize C a b i (j + 1) = y at *
        have : wrap64 (1 + min (x : Int) (y : Int)) = 1 + min (x : Int) (y : Int) := by unfold wrap64; omega
        rw [this]; omega

theorem upto_C {a b : ByteArray} (ha : a.size ≤ 1000) (hb : b.size ≤ 1000) : ∀ k : Nat, k ≤ (a.size + 1) * (b.size + 1) → ∀ p q : Nat, p ≤ a.size → q ≤ b.size → (a.size + 1) * (b.size + 1) ≤ k + (p * (b.size + 1) + q) →
    rd (Of.fillT a b (Of.upto a.size b.size k)) ((p * (b.size + 1) + q : Nat) : Int) = C a b p q
  | 0, _, p, q, hp, hq, h => by
    have := Of.idx_lt a.size b.size p q hp hq
    omega
  | k + 1, hk, p, q, hp, hq, h => by
    have ih := upto_C ha hb k (by omega)
    rw [Of.upto_succ, Of.fillT_snoc]
    unfold Of.stepT Of.nth
    simp only
    -- the cell of round k
    have hd := Nat.div_add_mod k (b.size + 1)
    have hm := Nat.mod_lt k (Nat.succ_pos b.size)
    have hd2 : k / (b.size + 1) ≤ a.size := by
      have := Nat.div_lt_of_lt_mul (m := k) (n := b.size + 1) (k := a.size + 1) (by rw [Nat.mul_comm]; omega)
      omega
    generalize k / (b.size + 1) = x at *
    rw [show k % (b.size + 1) = k % b.size.succ from rfl] at *
    generalize k % b.size.succ = y at *
    have hx : (a.size - x) * (b.size + 1) + x * (b.size + 1) = a.size * (b.size + 1) := by rw [← Nat.add_mul]; congr 1; omega
    have hN : (a.size + 1) * (b.size + 1) = a.size * (b.size + 1) + (b.size + 1) := Nat.succ_mul _ _
    have hxc : (b.size + 1) * x = x * (b.size + 1) := Nat.mul_comm _ _
    have hidx : (a.size - x) * (b.size + 1) + (b.size - y) + k + 1 = (a.size + 1) * (b.size + 1) := by
      rw [hxc] at hd
      omega
    have hv := val_C ha hb (Of.fillT a b (Of.upto a.size b.size k)) (a.size - x) (b.size - y) (by omega) (by omega) (fun p q hp hq hlt => ih p q hp hq (by omega))
    by_cases e : (a.size - x) * (b.size + 1) + (b.size - y) = p * (b.size + 1) + q
    · have ep : a.size - x = p ∧ b.size - y = q := by
        have r1 : ((a.size - x) * (b.size + 1) + (b.size - y)) % (b.size + 1) = b.size - y := by rw [Nat.add_comm, Nat.add_mul_mod_self_right]; exact Nat.mod_eq_of_lt (by omega)
        have r2 : (p * (b.size + 1) + q) % (b.size + 1) = q := by rw [Nat.add_comm, Nat.add_mul_mod_self_right]; exact Nat.mod_eq_of_lt (by omega)
        have r : b.size - y = q := by rw [← r1, ← r2, e]
        refine ⟨?_, r⟩
        rw [r] at e
        exact Nat.eq_of_mul_eq_mul_right (Nat.succ_pos b.size) (by show (a.size - x) * (b.size + 1) = p * (b.size + 1); omega)
      rw [e, rd_set_eq _ _ _ (by rw [Of.fillT_length]; exact Of.idx_lt _ _ _ _ hp hq), hv, ep.1, ep.2]
    · rw [rd_set_ne _ _ _ _ e]
      exact ih p q hp hq (by omega)

/-- THE TABLE -/
theorem table_C {a b : ByteArray} (ha : a.size ≤ 1000) (hb : b.size ≤ 1000) (i j : Nat) (hi : i ≤ a.size) (hj : j ≤ b.size) : rd (Of.table a b) ((i * (b.size + 1) + j : Nat) : Int) = C a b i j :=
  upto_C ha hb _ (Nat.le_refl _) i j hi hj (Nat.le_add_right _ _)
theorem table_0 {a b : ByteArray} (ha : a.size ≤ 1000) (hb : b.size ≤ 1000) : rd (Of.table a b) 0 = D (B a) (B b) := by
  have := table_C ha hb 0 0 (Nat.zero_le _) (Nat.zero_le _)
  rw [Nat.zero_mul] at this
  exact this
end Go.Proofs.Ythhgfagnallcnaa.Tbl
