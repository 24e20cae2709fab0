/- What the pure summary of the reference's Diff computes: the same edits as the pure summary of Diff. -/
import Derived.Test.YthhgfagnallcnaaRtb
import Derived.Test.YthhgfagnallcnaaDif
import Derived.Test.YthhgfagnallcnaaPAx6
import Derived.Test.YthhgfagnallcnaaPAx16
namespace Go.Proofs.Ythhgfagnallcnaa.Rdf
open Go.RowKit Go.Proofs.Ythhgfagnallcnaa.PA Go.Proofs.YthhgfagnallcnaaW.PrintWords Go.Proofs.YthhgfagnallcnaaW.PrintLast Go.Proofs.YthhgfagnallcnaaW.PrintMore Go.Proofs.Ythhgfagnallcnaa.Eds Go.Proofs.Ythhgfagnallcnaa.Tbl Go.Proofs.Ythhgfagnallcnaa.Rtb Go.Proofs.Ythhgfagnallcnaa.Dif
set_option linter.unusedVariables false

/-- the reference's loop at a state -/
abbrev R (a b : ByteArray) (t : List Int) (k : Nat) (ls : List S30) (op : Bool) (i j : Nat) (e : S30) : Option (List S30) :=
  emendateref06_Diff.l0 k a b t ((b.size + 1 : Nat) : Int) ls op (i : Int) (j : Int) e.f0 e.f1 e.f2

structure Bd (a b : ByteArray) (ls : List S30) (op : Bool) (i j : Nat) (e : S30) : Prop where
  li : i ≤ a.size
  lj : j ≤ b.size
  ll : ls.length ≤ i
  ld : ∃ d : Nat, e.f1 = d ∧ d ≤ i
  lx : e.f2.size ≤ j

theorem stop {a b : ByteArray} (ha : a.size ≤ 1000) (t : List Int) (k : Nat) (ls : List S30) (op : Bool) (i j : Nat) (e : S30) (h : Bd a b ls op i j e) (hi : i = a.size) (hj : j = b.size) :
    R a b t (k + 2) ls op i j e = some (if op = true then ls ++ [e] else ls) := by
  have := h.ll
  unfold R
  rw [emendateref06_Diff.l0, if_neg (by omega), decide_eq_false (by omega), emendateref06_Diff.j1, if_neg (by decide)]
  cases op with
  | true => rw [if_pos rfl, if_pos rfl, if_pos (by omega)]
  | false => rw [if_neg (by decide), if_neg (by decide)]

theorem enter {a b : ByteArray} (t : List Int) (k : Nat) (ls : List S30) (op : Bool) (i j : Nat) (e : S30) (hi : i ≤ a.size) (hj : j ≤ b.size) (hc : i < a.size ∨ j < b.size) :
    R a b t (k + 2) ls op i j e = emendateref06_Diff.j2 k a b t ((b.size + 1 : Nat) : Int) ls op (i : Int) (j : Int) (decide (i < a.size ∧ j < b.size ∧ bt a (i : Int) = bt b (j : Int))) e.f0 e.f1 e.f2 := by
  unfold R
  have g : emendateref06_Diff.l0 (k + 2) a b t ((b.size + 1 : Nat) : Int) ls op (i : Int) (j : Int) e.f0 e.f1 e.f2 = emendateref06_Diff.j1 (k + 1) a b t ((b.size + 1 : Nat) : Int) ls op (i : Int) (j : Int) true e.f0 e.f1 e.f2 := by
    rw [emendateref06_Diff.l0]
    by_cases c1 : (i : Int) < (a.size : Int)
    · rw [if_pos c1]
    · rw [if_neg c1, decide_eq_true (by omega)]
  rw [g, emendateref06_Diff.j1, if_pos rfl]
  by_cases c1 : i < a.size
  · rw [if_pos (by omega)]
    by_cases c2 : j < b.size
    · rw [if_pos (by omega), if_pos (by omega), if_pos (by omega)]
      congr 1
      rw [Bool.eq_iff_iff, beq_iff_eq, decide_eq_true_iff]
      exact ⟨fun x => ⟨c1, c2, x⟩, fun x => x.2.2⟩
    · rw [if_neg (by omega), decide_eq_false (fun x => c2 x.2.1)]
  · rw [if_neg (by omega), decide_eq_false (fun x => c1 x.1)]

theorem step_keep {a b : ByteArray} (ha : a.size ≤ 1000) (hb : b.size ≤ 1000) (t : List Int) (k : Nat) (ls : List S30) (op : Bool) (i j : Nat) (e : S30) (h : Bd a b ls op i j e) (hc : i < a.size ∧ j < b.size ∧ bt a (i : Int) = bt b (j : Int)) :
    R a b t (k + 3) ls op i j e = R a b t k (if op = true then ls ++ [e] else ls) false (i + 1) (j + 1) e := by
  have := h.ll
  have w1 : Aside0 (wrap64 ((i : Int) + 1) = ((i + 1 : Nat) : Int)) := Aside0.mk (wr (by omega) (by omega))
  have w2 : Aside0 (wrap64 ((j : Int) + 1) = ((j + 1 : Nat) : Int)) := Aside0.mk (wr (by omega) (by omega))
  rw [enter t (k + 1) ls op i j e h.li h.lj (.inl hc.1), decide_eq_true hc, emendateref06_Diff.j2, if_pos rfl]
  simp only [w1.out, w2.out]
  cases op with
  | true => rw [if_pos rfl, if_pos rfl, if_pos (by omega)]
  | false => rw [if_neg (by decide), if_neg (by decide)]

theorem step_other {a b : ByteArray} (ha : a.size ≤ 1000) (hb : b.size ≤ 1000) {t : List Int} (ht : Rtb.Good a b t 0) (k : Nat) (ls : List S30) (op : Bool) (i j : Nat) (e : S30) (h : Bd a b ls op i j e) (hl : i < a.size ∨ j < b.size) (hc : ¬ (i < a.size ∧ j < b.size ∧ bt a (i : Int) = bt b (j : Int))) :
    R a b t (k + 3) ls op i j e = if j = b.size ∨ (i < a.size ∧ C a b (i + 1) j ≤ C a b i (j + 1)) then R a b t k ls true (i + 1) j ⟨(cur op i e).f0, (cur op i e).f1 + 1, (cur op i e).f2⟩
      else R a b t k ls true i (j + 1) ⟨(cur op i e).f0, (cur op i e).f1, (cur op i e).f2 ++ b.extract j (j + 1)⟩ := by
  have hll := h.ll
  have hli := h.li
  have hlj := h.lj
  obtain ⟨d, hd, hdi⟩ := h.ld
  have hlx := h.lx
  obtain ⟨htl, hc0⟩ := ht
  have hN : (a.size + 1) * (b.size + 1) ≤ 1001 * 1001 := Nat.mul_le_mul (by omega) (by omega)
  have p1 : ((i : Nat) : Int) * ((b.size + 1 : Nat) : Int) = ((i * (b.size + 1) : Nat) : Int) := by simp
  have p2 : ((i + 1 : Nat) : Int) * ((b.size + 1 : Nat) : Int) = (((i + 1) * (b.size + 1) : Nat) : Int) := by simp
  have m1 : (i + 1) * (b.size + 1) = i * (b.size + 1) + (b.size + 1) := Nat.succ_mul _ _
  have hid := Of.idx_lt a.size b.size i j hli hlj
  have w1 : Aside0 (wrap64 ((i : Int) + 1) = ((i + 1 : Nat) : Int)) := Aside0.mk (wr (by omega) (by omega))
  have w2 : Aside0 (wrap64 ((j : Int) + 1) = ((j + 1 : Nat) : Int)) := Aside0.mk (wr (by omega) (by omega))
  have w3 : Aside0 (wrap64 ((d : Int) + 1) = ((d : Int) + 1)) := Aside0.mk (by unfold wrap64; omega)
  have e1 : ((j : Nat) : Int).toNat = j := rfl
  have e2 : ((j + 1 : Nat) : Int).toNat = j + 1 := rfl
  have sx : j < b.size → (b.extract j (j + 1)).size = 1 := fun g => by rw [ByteArray.size_extract]; omega
  rw [enter t (k + 1) ls op i j e h.li h.lj hl, decide_eq_false hc, emendateref06_Diff.j2, if_neg (by decide)]
  by_cases c1 : j = b.size
  · rw [if_pos (c := (j = b.size ∨ (i < a.size ∧ C a b (i + 1) j ≤ C a b i (j + 1)))) (.inl c1)]
    cases op with
    | true =>
      rw [if_pos rfl]
      simp only [w1.out, hd, w3.out]
      rw [if_pos (by omega)]
      unfold R cur
      simp only [if_true, hd]
    | false =>
      rw [if_neg (by decide)]
      simp only [w1.out]
      rw [if_pos (by omega)]
      rfl
  · by_cases c2 : i < a.size
    · have hid2 := Of.idx_lt a.size b.size (i + 1) j (by omega) hlj
      have hid3 := Of.idx_lt a.size b.size i (j + 1) hli (by omega)
      have w4 : Aside0 (wrap64 ((i : Int) * ((b.size + 1 : Nat) : Int)) = ((i * (b.size + 1) : Nat) : Int)) := Aside0.mk (wr p1 (by omega))
      have w5 : Aside0 (wrap64 (((i * (b.size + 1) : Nat) : Int) + (j : Int)) = ((i * (b.size + 1) + j : Nat) : Int)) := Aside0.mk (wr (by omega) (by omega))
      have w6 : Aside0 (wrap64 (((i + 1 : Nat) : Int) * ((b.size + 1 : Nat) : Int)) = (((i + 1) * (b.size + 1) : Nat) : Int)) := Aside0.mk (wr p2 (by omega))
      have w7 : Aside0 (wrap64 ((((i + 1) * (b.size + 1) : Nat) : Int) + (j : Int)) = (((i + 1) * (b.size + 1) + j : Nat) : Int)) := Aside0.mk (wr (by omega) (by omega))
      have w8 : Aside0 (wrap64 (((i * (b.size + 1) + j : Nat) : Int) + 1) = ((i * (b.size + 1) + (j + 1) : Nat) : Int)) := Aside0.mk (wr (by omega) (by omega))
      have r1 := Aside0.mk (hc0 (i + 1) j (by omega) hlj (Nat.zero_le _))
      have r2 := Aside0.mk (hc0 i (j + 1) hli (by omega) (Nat.zero_le _))
      cases op with
      | true =>
        rw [if_pos rfl]
        simp only [w1.out, w2.out, hd, w3.out, w4.out, w5.out, w6.out, w7.out, w8.out, r1.out, r2.out, e1, e2]
        clear w1 w2 w3 w4 w5 w6 w7 w8 r1 r2
        have sx := sx (by omega)
        rw [if_neg (by omega), if_pos (by omega), if_pos (by omega), if_pos (by omega), if_pos (by omega), if_pos (by omega)]
        by_cases c3 : C a b (i + 1) j ≤ C a b i (j + 1)
        · rw [if_pos (by omega), if_pos (.inr ⟨c2, c3⟩)]
          unfold R cur
          simp only [if_true, hd]
        · rw [if_neg (by omega), if_pos (by omega), if_pos (by omega), if_pos (by omega), if_pos (by omega), if_neg (by omega)]
          unfold R cur
          simp only [if_true, hd]
      | false =>
        rw [if_neg (by decide)]
        simp only [w1.out, w2.out, w4.out, w5.out, w6.out, w7.out, w8.out, r1.out, r2.out, e1, e2]
        clear w1 w2 w3 w4 w5 w6 w7 w8 r1 r2
        have sx := sx (by omega)
        rw [if_neg (by omega), if_pos (by omega), if_pos (by omega), if_pos (by omega), if_pos (by omega), if_pos (by omega)]
        by_cases c3 : C a b (i + 1) j ≤ C a b i (j + 1)
        · rw [if_pos (by omega), if_pos (.inr ⟨c2, c3⟩)]
          rfl
        · rw [if_neg (by omega), if_pos (by omega), if_pos (by omega), if_pos (by omega), if_pos (by omega), if_neg (by omega)]
          rfl
    · have sx := sx (by omega)
      cases op with
      | true =>
        rw [if_pos rfl]
        simp only [w2.out, hd, e1, e2]
        clear w1 w2 w3
        rw [if_neg (by omega), if_neg (by omega), if_pos (by omega), if_pos (by omega), if_pos (by omega), if_pos (by omega), if_neg (by omega)]
        unfold R cur
        simp only [if_true, hd]
      | false =>
        rw [if_neg (by decide)]
        simp only [w2.out, e1, e2]
        clear w1 w2 w3
        rw [if_neg (by omega), if_neg (by omega), if_pos (by omega), if_pos (by omega), if_pos (by omega), if_pos (by omega), if_neg (by omega)]
        rfl

theorem cur_bd {a b : ByteArray} {ls : List S30} {op : Bool} {i j : Nat} {e : S30} (h : Bd a b ls op i j e) : (∃ d : Nat, (cur op i e).f1 = d ∧ d ≤ i) ∧ (cur op i e).f2.size ≤ j := by
  cases op with
  | true => exact ⟨h.ld, h.lx⟩
  | false => exact ⟨⟨0, rfl, Nat.zero_le _⟩, Nat.zero_le _⟩

theorem sim {a b : ByteArray} (ha : a.size ≤ 1000) (hb : b.size ≤ 1000) {t : List Int} (ht : Rtb.Good a b t 0) : ∀ (k : Nat) (ls : List S30) (op : Bool) (i j : Nat) (e : S30) (l : List S30), Bd a b ls op i j e →
    textdiff_Diff.l0 a b (Of.table a b) k ls op i j e = some l → R a b t (3 * k) ls op i j e = some l
  | 0, ls, op, i, j, e, l, h, hl => by rw [textdiff_Diff.l0] at hl; cases hl
  | k + 1, ls, op, i, j, e, l, h, hl => by
    have hi := h.li
    have hj := h.lj
    rw [textdiff_Diff.l0] at hl
    rw [show 3 * (k + 1) = 3 * k + 3 by omega]
    by_cases c1 : i < a.size ∨ j < b.size
    · rw [if_pos c1] at hl
      by_cases c2 : i < a.size ∧ j < b.size ∧ bt a (i : Int) = bt b (j : Int)
      · rw [if_pos c2] at hl
        rw [step_keep ha hb t (3 * k) ls op i j e h c2]
        refine sim ha hb ht k _ _ _ _ _ l ⟨c2.1, c2.2.1, ?_, ?_, by have := h.lx; omega⟩ hl
        · have := h.ll
          cases op with
          | true => rw [if_pos rfl, List.length_append, List.length_singleton]; omega
          | false => rw [if_neg (by decide)]; omega
        · obtain ⟨d, hd, hdi⟩ := h.ld
          exact ⟨d, hd, by omega⟩
      · rw [if_neg c2] at hl
        rw [step_other ha hb ht (3 * k) ls op i j e h c1 c2]
        obtain ⟨⟨d, hd, hdi⟩, hx⟩ := cur_bd h
        have hll := h.ll
        have e2 : (((i : Int) + 1) * ((b.size : Int) + 1) + (j : Int)) = (((i + 1) * (b.size + 1) + j : Nat) : Int) := by simp
        have e3 : ((i : Int) * ((b.size : Int) + 1) + ((j : Int) + 1)) = ((i * (b.size + 1) + (j + 1) : Nat) : Int) := by simp
        have hd2 : textdiff_Diff.del a b (Of.table a b) i j ↔ (j = b.size ∨ (i < a.size ∧ C a b (i + 1) j ≤ C a b i (j + 1))) := by
          unfold textdiff_Diff.del
          by_cases c4 : j = b.size
          · exact ⟨fun _ => .inl c4, fun _ => .inl c4⟩
          · by_cases c5 : i < a.size
            · rw [e2, e3, table_C ha hb (i + 1) j c5 hj, table_C ha hb i (j + 1) hi (by omega)]
              constructor
              · intro g; rcases g with g | ⟨g1, g2⟩
                · exact .inl g
                · exact .inr ⟨g1, by omega⟩
              · intro g; rcases g with g | ⟨g1, g2⟩
                · exact .inl g
                · exact .inr ⟨g1, by omega⟩
            · constructor
              · intro g; rcases g with g | ⟨g1, g2⟩
                · exact .inl g
                · exact absurd g1 c5
              · intro g; rcases g with g | ⟨g1, g2⟩
                · exact .inl g
                · exact absurd g1 c5
        by_cases c3 : textdiff_Diff.del a b (Of.table a b) i j
        · rw [if_pos c3] at hl
          have c3' := hd2.1 c3
          rw [if_pos c3']
          have hia : i < a.size := by
            rcases c3' with g | g
            · omega
            · exact g.1
          exact sim ha hb ht k _ _ _ _ _ l ⟨hia, hj, by omega, ⟨d + 1, by show (cur op i e).f1 + 1 = _; rw [hd]; omega, by omega⟩, hx⟩ hl
        · rw [if_neg c3] at hl
          have c3' := fun g => c3 (hd2.2 g)
          rw [if_neg c3']
          have hjb : j < b.size := Nat.lt_of_le_of_ne hj (fun g => c3' (.inl g))
          refine sim ha hb ht k _ _ _ _ _ l ⟨hi, hjb, by omega, ⟨d, hd, hdi⟩, ?_⟩ hl
          show ((cur op i e).f2 ++ b.extract j (j + 1)).size ≤ j + 1
          rw [ByteArray.size_append, ByteArray.size_extract]; omega
    · rw [if_neg c1] at hl
      rw [show 3 * k + 3 = (3 * k + 1) + 2 by omega, stop ha t _ ls op i j e h (by omega) (by omega)]
      exact hl
/-- THE REFERENCE'S DIFF -/
theorem diff_ref {a b : ByteArray} (ha : a.size ≤ 80) (hb : b.size ≤ 80) (l : List S30) (hl : textdiff_Diff.f a b = some l) : ∃ k0, ∀ k, emendateref06_Diff.f (k + k0) a b = some l := by
  obtain ⟨t, hg, ht⟩ := table_ref ha hb
  unfold textdiff_Diff.f at hl
  rw [if_pos ⟨by omega, by omega⟩] at hl
  have h := sim (a := a) (b := b) (by omega) (by omega) hg (a.size + b.size + 1) [] false 0 0 ⟨0, 0, ⟨#[]⟩⟩ l ⟨Nat.zero_le _, Nat.zero_le _, Nat.le_refl _, ⟨0, rfl, Nat.le_refl _⟩, Nat.le_refl _⟩ hl
  refine ⟨10000 + 3 * (a.size + b.size + 1), fun k => ?_⟩
  have w2 : wrap64 ((b.size : Int) + 1) = ((b.size + 1 : Nat) : Int) := wr (by omega) (by omega)
  unfold emendateref06_Diff.f
  rw [show k + (10000 + 3 * (a.size + b.size + 1)) = k + 3 * (a.size + b.size + 1) + 10000 by omega, ht, Option.bind_some, w2]
  have up : ∀ n k, emendateref06_Diff.l0 k a b t ((b.size + 1 : Nat) : Int) [] false 0 0 0 0 ⟨#[]⟩ = some l → emendateref06_Diff.l0 (k + n) a b t ((b.size + 1 : Nat) : Int) [] false 0 0 0 0 ⟨#[]⟩ = some l := fun n k hk => by
    induction n with
    | zero => exact hk
    | succ n ih => exact (emendateref06_Diff.mono_l (k + n)).1 _ _ _ _ _ _ _ _ _ _ _ _ ih
  have := up (k + 10000) _ h
  rw [show 3 * (a.size + b.size + 1) + (k + 10000) = k + 3 * (a.size + b.size + 1) + 10000 by omega] at this
  exact this
/-- a list is the same as itself -/
theorem same_self (l : List S30) (hl : l.length ≤ 1000000) : ∀ (n i k : Nat), i + n = l.length → n < k → emendateref03_Same.l0 k l l i = some true
  | 0, i, k, h, hk => by
    obtain ⟨k, rfl⟩ : ∃ j, k = j + 1 := ⟨k - 1, by omega⟩
    rw [emendateref03_Same.l0, if_neg (by omega)]
  | n + 1, i, k, h, hk => by
    obtain ⟨k, rfl⟩ : ∃ j, k = j + 1 := ⟨k - 1, by omega⟩
    have w1 : Aside0 (wrap64 ((i : Int) + 1) = ((i + 1 : Nat) : Int)) := Aside0.mk (wr (by omega) (by omega))
    rw [emendateref03_Same.l0, if_pos (by omega), if_pos (by omega), if_pos (by omega), if_neg (by simp only [beq_self_eq_true, Bool.not_true, Bool.or_self]; decide), w1.out]
    exact same_self l hl n (i + 1) k (by omega) (by omega)
theorem same_f (l : List S30) (hl : l.length ≤ 1000000) (k : Nat) (hk : l.length < k) : emendateref03_Same.f k l l = some true := by
  unfold emendateref03_Same.f
  rw [if_pos rfl]
  exact same_self l hl l.length 0 k (by omega) hk
end Go.Proofs.Ythhgfagnallcnaa.Rdf
