/- What the pure summary of the reference's Table computes: the distances of all pairs of suffixes. -/
import Derived.Test.YthhgfagnallcnaaTbl
import Derived.Test.YthhgfagnallcnaaPAx11
namespace Go.Proofs.Ythhgfagnallcnaa.Rtb
open Go.RowKit Go.Proofs.Ythhgfagnallcnaa.PA Go.Proofs.YthhgfagnallcnaaW.PrintWords Go.Proofs.YthhgfagnallcnaaW.PrintLast Go.Proofs.YthhgfagnallcnaaW.PrintMore Go.Proofs.Ythhgfagnallcnaa.Eds Go.Proofs.Ythhgfagnallcnaa.Tbl
set_option linter.unusedVariables false

theorem wr {x : Int} {n : Nat} (h : x = (n : Int)) (hn : n ≤ 2000000) : wrap64 x = (n : Int) := by subst h; unfold wrap64; omega
theorem mn_nat (x y : Nat) : mn (x : Int) (y : Int) = ((min x y : Nat) : Int) := by
  unfold mn
  split <;> omega

/-- the cells behind k hold the distances -/
def Good (a b : ByteArray) (t : List Int) (k : Nat) : Prop := t.length = (a.size + 1) * (b.size + 1) ∧ ∀ p q : Nat, p ≤ a.size → q ≤ b.size → k ≤ p * (b.size + 1) + q → rd t ((p * (b.size + 1) + q : Nat) : Int) = C a b p q
theorem idx_inj {m i j p q : Nat} (hj : j ≤ m) (hq : q ≤ m) (e : i * (m + 1) + j = p * (m + 1) + q) : i = p ∧ j = q := by
  have r1 : (i * (m + 1) + j) % (m + 1) = j := by rw [Nat.add_comm, Nat.add_mul_mod_self_right]; exact Nat.mod_eq_of_lt (by omega)
  have r2 : (p * (m + 1) + q) % (m + 1) = q := by rw [Nat.add_comm, Nat.add_mul_mod_self_right]; exact Nat.mod_eq_of_lt (by omega)
  have r : j = q := by rw [← r1, ← r2, e]
  refine ⟨?_, r⟩
  rw [r] at e
  exact Nat.eq_of_mul_eq_mul_right (Nat.succ_pos m) (by show i * (m + 1) = p * (m + 1); omega)
theorem Good.set {a b : ByteArray} {t : List Int} {i j : Nat} (hi : i ≤ a.size) (hj : j ≤ b.size) (h : Good a b t (i * (b.size + 1) + j + 1)) : Good a b (t.set (i * (b.size + 1) + j) (C a b i j : Int)) (i * (b.size + 1) + j) := by
  refine ⟨by rw [List.length_set]; exact h.1, fun p q hp hq hk => ?_⟩
  by_cases e : i * (b.size + 1) + j = p * (b.size + 1) + q
  · obtain ⟨rfl, rfl⟩ := idx_inj hj hq e
    exact rd_set_eq _ _ _ (by rw [h.1]; exact Of.idx_lt _ _ _ _ hi hj)
  · rw [rd_set_ne _ _ _ _ e]
    exact h.2 p q hp hq (by omega)

theorem l1_step {a b : ByteArray} (ha : a.size ≤ 1000) (hb : b.size ≤ 1000) (k : Nat) (t : List Int) (i j : Nat) (hi : i ≤ a.size) (hj : j ≤ b.size) (h : Good a b t (i * (b.size + 1) + j + 1)) :
    emendateref06_Table.l1 (k + 1) a b ((b.size + 1 : Nat) : Int) t i j = emendateref06_Table.l1 k a b ((b.size + 1 : Nat) : Int) (t.set (i * (b.size + 1) + j) (C a b i j : Int)) i ((j : Int) - 1) := by
  obtain ⟨hl, hc⟩ := h
  have hN : (a.size + 1) * (b.size + 1) ≤ 1001 * 1001 := Nat.mul_le_mul (by omega) (by omega)
  have hid := Of.idx_lt a.size b.size i j hi hj
  have m1 : (i + 1) * (b.size + 1) = i * (b.size + 1) + (b.size + 1) := Nat.succ_mul _ _
  have p1 : ((i : Nat) : Int) * ((b.size + 1 : Nat) : Int) = ((i * (b.size + 1) : Nat) : Int) := by simp
  have p2 : ((i + 1 : Nat) : Int) * ((b.size + 1 : Nat) : Int) = (((i + 1) * (b.size + 1) : Nat) : Int) := by simp
  have w1 : Aside0 (wrap64 ((i : Int) * ((b.size + 1 : Nat) : Int)) = ((i * (b.size + 1) : Nat) : Int)) := Aside0.mk (wr p1 (by omega))
  have w2 : Aside0 (wrap64 (((i * (b.size + 1) : Nat) : Int) + (j : Int)) = ((i * (b.size + 1) + j : Nat) : Int)) := Aside0.mk (wr (by omega) (by omega))
  have w3 : Aside0 (wrap64 ((i : Int) + 1) = ((i + 1 : Nat) : Int)) := Aside0.mk (wr (by omega) (by omega))
  have w6 : Aside0 (wrap64 ((j : Int) - 1) = (j : Int) - 1) := Aside0.mk (by unfold wrap64; omega)
  have w7 : Aside0 (wrap64 ((b.size : Int) - j) = ((b.size - j : Nat) : Int)) := Aside0.mk (wr (by omega) (by omega))
  have w8 : Aside0 (wrap64 ((a.size : Int) - i) = ((a.size - i : Nat) : Int)) := Aside0.mk (wr (by omega) (by omega))
  have e1 : ((i * (b.size + 1) + j : Nat) : Int).toNat = i * (b.size + 1) + j := rfl
  rw [emendateref06_Table.l1]
  by_cases c1 : i = a.size
  · simp only [w1.out, w2.out, w6.out, w7.out, e1]
    clear w1 w2 w3 w6 w7 w8
    rw [if_pos (by omega), if_pos (by omega), if_pos (by omega), if_pos (by omega), C_left a b c1]
  · by_cases c2 : j = b.size
    · simp only [w1.out, w2.out, w6.out, w8.out, e1]
      clear w1 w2 w3 w6 w7 w8
      rw [if_pos (by omega), if_neg (by omega), if_pos (by omega), if_pos (by omega), if_pos (by omega), C_right a b c2]
    · have hid2 := Of.idx_lt a.size b.size (i + 1) (j + 1) (by omega) (by omega)
      have w4 : Aside0 (wrap64 (((i + 1 : Nat) : Int) * ((b.size + 1 : Nat) : Int)) = (((i + 1) * (b.size + 1) : Nat) : Int)) := Aside0.mk (wr p2 (by omega))
      have w5 : Aside0 (wrap64 ((((i + 1) * (b.size + 1) : Nat) : Int) + (j : Int)) = (((i + 1) * (b.size + 1) + j : Nat) : Int)) := Aside0.mk (wr (by omega) (by omega))
      have w9 : Aside0 (wrap64 ((((i + 1) * (b.size + 1) + j : Nat) : Int) + 1) = (((i + 1) * (b.size + 1) + (j + 1) : Nat) : Int)) := Aside0.mk (wr (by omega) (by omega))
      have wa : Aside0 (wrap64 (((i * (b.size + 1) + j : Nat) : Int) + 1) = ((i * (b.size + 1) + (j + 1) : Nat) : Int)) := Aside0.mk (wr (by omega) (by omega))
      simp only [w1.out, w2.out, w3.out, w4.out, w5.out, w6.out, w9.out, wa.out, e1]
      clear w1 w2 w3 w4 w5 w6 w7 w8 w9 wa
      rw [if_pos (by omega), if_neg (by omega), if_neg (by omega), if_pos (by omega), if_pos (by omega), if_pos (by omega), if_pos (by omega)]
      by_cases c3 : bt a (i : Int) = bt b (j : Int)
      · rw [if_pos c3, if_pos (by omega), if_pos (by omega), if_pos (by omega), if_pos (by omega), hc (i + 1) (j + 1) (by omega) (by omega) (by omega), C_same (by omega) (by omega) c3]
      · rw [if_neg c3, if_pos (by omega), if_pos (by omega), if_pos (by omega), if_pos (by omega), if_pos (by omega), if_pos (by omega),
          hc (i + 1) j (by omega) (by omega) (by omega), hc i (j + 1) (by omega) (by omega) (by omega), mn_nat, C_ne (by omega) (by omega) c3]
        have b1 := C_le a b (i + 1) j
        have wz : wrap64 (1 + ((min (C a b (i + 1) j) (C a b i (j + 1)) : Nat) : Int)) = ((1 + min (C a b (i + 1) j) (C a b i (j + 1)) : Nat) : Int) := wr (by omega) (by omega)
        rw [wz]
theorem l1_stop {a b : ByteArray} (k : Nat) (x5 : Int) (t : List Int) (i : Int) : emendateref06_Table.l1 (k + 1) a b x5 t i (-1) = emendateref06_Table.l0 k a b x5 t (wrap64 (i - 1)) := by
  rw [emendateref06_Table.l1, if_neg (by decide)]

/-- a row -/
theorem l1_row {a b : ByteArray} (ha : a.size ≤ 1000) (hb : b.size ≤ 1000) (i : Nat) (hi : i ≤ a.size) : ∀ (j : Nat) (t : List Int) (k : Nat), j ≤ b.size → Good a b t (i * (b.size + 1) + j + 1) →
    ∃ t', Good a b t' (i * (b.size + 1)) ∧ emendateref06_Table.l1 (k + j + 2) a b ((b.size + 1 : Nat) : Int) t i j = emendateref06_Table.l0 k a b ((b.size + 1 : Nat) : Int) t' ((i : Int) - 1)
  | 0, t, k, hj, h => by
    refine ⟨_, h.set hi hj, ?_⟩
    have w : wrap64 ((i : Int) - 1) = (i : Int) - 1 := by unfold wrap64; omega
    rw [show k + 0 + 2 = (k + 1) + 1 from rfl, l1_step ha hb (k + 1) t i 0 hi hj h, show ((0 : Nat) : Int) - 1 = -1 from rfl, l1_stop, w]
  | j + 1, t, k, hj, h => by
    obtain ⟨t', h1, h2⟩ := l1_row ha hb i hi j _ k (by omega) (h.set hi hj)
    refine ⟨t', h1, ?_⟩
    have e : ((j + 1 : Nat) : Int) - 1 = (j : Int) := by omega
    rw [show k + (j + 1) + 2 = (k + j + 2) + 1 by omega, l1_step ha hb (k + j + 2) t i (j + 1) hi hj h, e]
    exact h2
theorem l0_rows {a b : ByteArray} (ha : a.size ≤ 1000) (hb : b.size ≤ 1000) : ∀ (i : Nat) (t : List Int) (k : Nat), i ≤ a.size → Good a b t ((i + 1) * (b.size + 1)) →
    ∃ t', Good a b t' 0 ∧ emendateref06_Table.l0 (k + (i + 1) * (b.size + 3) + 1) a b ((b.size + 1 : Nat) : Int) t i = some t'
  | 0, t, k, hi, h => by
    have hN : (0 + 1) * (b.size + 1) = 0 * (b.size + 1) + b.size + 1 := by omega
    rw [hN] at h
    obtain ⟨t', h1, h2⟩ := l1_row ha hb 0 hi b.size t (k + 1) (Nat.le_refl _) h
    rw [Nat.zero_mul] at h1
    refine ⟨t', h1, ?_⟩
    rw [show k + (0 + 1) * (b.size + 3) + 1 = (k + 1 + b.size + 2) + 1 by omega, emendateref06_Table.l0, if_pos (by omega), h2, show ((0 : Nat) : Int) - 1 = -1 from rfl, emendateref06_Table.l0, if_neg (by decide)]
  | i + 1, t, k, hi, h => by
    have hN : (i + 1 + 1) * (b.size + 1) = (i + 1) * (b.size + 1) + b.size + 1 := by rw [Nat.succ_mul]; omega
    rw [hN] at h
    obtain ⟨t1, g1, g2⟩ := l1_row ha hb (i + 1) hi b.size t (k + (i + 1) * (b.size + 3) + 1) (Nat.le_refl _) h
    obtain ⟨t', h1, h2⟩ := l0_rows ha hb i t1 k (by omega) g1
    refine ⟨t', h1, ?_⟩
    have e : ((i + 1 : Nat) : Int) - 1 = (i : Int) := by omega
    have hM : (i + 1 + 1) * (b.size + 3) = (i + 1) * (b.size + 3) + (b.size + 3) := Nat.succ_mul _ _
    rw [show k + (i + 1 + 1) * (b.size + 3) + 1 = (k + (i + 1) * (b.size + 3) + 1 + b.size + 2) + 1 by omega, emendateref06_Table.l0, if_pos (by omega), g2, e]
    exact h2
/-- THE REFERENCE'S TABLE -/
theorem table_ref {a b : ByteArray} (ha : a.size ≤ 80) (hb : b.size ≤ 80) : ∃ t, Good a b t 0 ∧ ∀ k, emendateref06_Table.f (k + 10000) a b = some t := by
  have hN : (a.size + 1) * (b.size + 1) ≤ 81 * 81 := Nat.mul_le_mul (by omega) (by omega)
  have hF : (a.size + 1) * (b.size + 3) ≤ 81 * 83 := Nat.mul_le_mul (by omega) (by omega)
  have g0 : Good a b (List.replicate ((a.size + 1) * (b.size + 1)) 0) ((a.size + 1) * (b.size + 1)) := ⟨List.length_replicate .., fun p q hp hq hk => by
    have := Of.idx_lt a.size b.size p q hp hq; omega⟩
  obtain ⟨t, h1, h2⟩ := l0_rows (a := a) (b := b) (by omega) (by omega) a.size _ (10000 - (a.size + 1) * (b.size + 3) - 1) (Nat.le_refl _) g0
  rw [show 10000 - (a.size + 1) * (b.size + 3) - 1 + (a.size + 1) * (b.size + 3) + 1 = 10000 by omega] at h2
  refine ⟨t, h1, fun k => ?_⟩
  have w1 : Aside0 (wrap64 ((a.size : Int) + 1) = ((a.size + 1 : Nat) : Int)) := Aside0.mk (wr (by omega) (by omega))
  have w2 : Aside0 (wrap64 ((b.size : Int) + 1) = ((b.size + 1 : Nat) : Int)) := Aside0.mk (wr (by omega) (by omega))
  have p1 : ((a.size + 1 : Nat) : Int) * ((b.size + 1 : Nat) : Int) = (((a.size + 1) * (b.size + 1) : Nat) : Int) := by simp
  have w3 : Aside0 (wrap64 (((a.size + 1 : Nat) : Int) * ((b.size + 1 : Nat) : Int)) = (((a.size + 1) * (b.size + 1) : Nat) : Int)) := Aside0.mk (wr p1 (by omega))
  have e1 : (((a.size + 1) * (b.size + 1) : Nat) : Int).toNat = (a.size + 1) * (b.size + 1) := rfl
  unfold emendateref06_Table.f
  simp only [w1.out, w2.out, w3.out, e1]
  clear w1 w2 w3
  rw [if_pos (by omega), if_pos (by omega)]
  have up : ∀ k, emendateref06_Table.l0 (k + 10000) a b ((b.size + 1 : Nat) : Int) (List.replicate ((a.size + 1) * (b.size + 1)) 0) (a.size : Int) = some t := fun k => by
    induction k with
    | zero => rw [Nat.zero_add]; exact h2
    | succ k ih => rw [Nat.add_right_comm]; exact (emendateref06_Table.mono_l (k + 10000)).1 _ _ _ _ _ _ ih
  exact up k
end Go.Proofs.Ythhgfagnallcnaa.Rtb
