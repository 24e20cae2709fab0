/- What the pure summary of Diff computes: edits in increasing places that transform a into b at the cost of the distance. -/
import Derived.Test.YthhgfagnallcnaaTbl
import Derived.Test.YthhgfagnallcnaaPAx7
namespace Go.Proofs.Ythhgfagnallcnaa.Dif
open Go.RowKit Go.Proofs.Ythhgfagnallcnaa.PA Go.Proofs.YthhgfagnallcnaaW.PrintWords Go.Proofs.Ythhgfagnallcnaa.Eds Go.Proofs.Ythhgfagnallcnaa.Tbl
set_option linter.unusedVariables false

theorem B_ext (a : ByteArray) (p q : Nat) : B (a.extract p q) = ((B a).take q).drop p := by
  unfold B
  rw [ByteArray.data_extract, Array.toList_extract, List.extract_eq_take_drop, List.drop_take]
theorem B_app (a b : ByteArray) : B (a ++ b) = B a ++ B b := by unfold B; rw [ByteArray.data_append, Array.toList_append]

/-- the edits of `rest` go on from the text `out` (made of the bytes of a before q, at the cost c) to b, at the whole cost N; f: an edit was before -/
inductive Run (a b : L) (N : Nat) : Bool → L → Nat → Nat → List S30 → Prop
  | nil {f : Bool} {out : L} {q c : Nat} : q ≤ a.length → out ++ a.drop q = b → c = N → Run a b N f out q c []
  | cons {f : Bool} {out : L} {q c p d : Nat} {ins : ByteArray} {rest : List S30} : q ≤ p → (f = true → q < p) → p + d ≤ a.length →
      Run a b N true (out ++ (a.take p).drop q ++ B ins) (p + d) (c + d + ins.size) rest → Run a b N f out q c (⟨(p : Int), (d : Int), ins⟩ :: rest)
theorem Run.len {a b : L} {N : Nat} {f : Bool} {out : L} {q c : Nat} {rest : List S30} (h : Run a b N f out q c rest) : out.length ≤ b.length ∧ c ≤ N ∧ q ≤ a.length := by
  induction h with
  | nil h1 h2 h3 => rw [← h2, List.length_append]; omega
  | cons h1 h2 h3 _ ih => rw [List.length_append, List.length_append] at ih; omega

/-- the edit under way -/
def cur (op : Bool) (i : Nat) (e : S30) : S30 := if op = true then e else ⟨(i : Int), 0, ⟨#[]⟩⟩

theorem take_drop_succ {a : L} {q i : Nat} (hq : q ≤ i) (hi : i < a.length) : (a.take (i + 1)).drop q = (a.take i).drop q ++ [a[i]] := by
  rw [List.take_succ_eq_append_getElem hi, List.drop_append_of_le_length (by rw [List.length_take]; omega)]
theorem S30_ext {x : S30} {p d : Int} {i : ByteArray} (h0 : x.f0 = p) (h1 : x.f1 = d) (h2 : x.f2 = i) : x = ⟨p, d, i⟩ := by cases x; simp_all

structure Inv (a b : ByteArray) (ls : List S30) (op : Bool) (i j : Nat) (e : S30) : Prop where
  li : i ≤ a.size
  lj : j ≤ b.size
  ex : ∃ (f : Bool) (out : L) (q c p d : Nat) (ins : ByteArray), cur op i e = ⟨(p : Int), (d : Int), ins⟩ ∧ q ≤ p ∧ (f = true → q < p) ∧ p + d = i ∧
    out ++ ((B a).take p).drop q ++ B ins = (B b).take j ∧ c + d + ins.size + C a b i j = C a b 0 0 ∧
    ∀ rest, Run (B a) (B b) (C a b 0 0) f out q c rest → Run (B a) (B b) (C a b 0 0) false [] 0 0 (ls ++ rest)

theorem Inv.keep {a b : ByteArray} {ls : List S30} {op : Bool} {i j : Nat} {e : S30} (h : Inv a b ls op i j e) (hi : i < a.size) (hj : j < b.size) (hc : bt a (i : Int) = bt b (j : Int)) :
    Inv a b (if op = true then ls ++ [e] else ls) false (i + 1) (j + 1) e := by
  obtain ⟨f, out, q, c, p, d, ins, he, h1, h2, h3, h4, h5, h6⟩ := h.ex
  have hb := (bt_eq hi hj).1 hc
  rw [C_same hi hj hc] at h5
  have e0 : (⟨#[]⟩ : ByteArray).size = 0 := rfl
  have e1 : B (⟨#[]⟩ : ByteArray) = [] := rfl
  have tb : (B b).take (j + 1) = (B b).take j ++ [(B b)[j]'hj] := List.take_succ_eq_append_getElem hj
  refine ⟨hi, hj, ?_⟩
  cases op with
  | true =>
    have ee : e = ⟨(p : Int), (d : Int), ins⟩ := he
    refine ⟨true, out ++ ((B a).take p).drop q ++ B ins, p + d, c + d + ins.size, i + 1, 0, ⟨#[]⟩, rfl, by omega, fun _ => by omega, by omega, ?_, by rw [e0]; omega, fun rest hr => ?_⟩
    · rw [h4, h3, take_drop_succ (a := B a) (Nat.le_refl _) hi, e1, List.append_nil, List.drop_of_length_le (by rw [List.length_take]; omega), List.nil_append, tb, hb]
    · rw [if_pos rfl, List.append_assoc, ee]
      exact h6 _ (Run.cons h1 h2 (by rw [B_len]; omega) hr)
  | false =>
    have ee : (⟨(i : Int), 0, ⟨#[]⟩⟩ : S30) = ⟨(p : Int), (d : Int), ins⟩ := he
    injection ee with g0 g1 g2
    obtain rfl : i = p := by omega
    obtain rfl : d = 0 := by omega
    subst g2
    rw [e1, List.append_nil] at h4
    refine ⟨f, out, q, c, i + 1, 0, ⟨#[]⟩, rfl, by omega, fun _ => by omega, by omega, ?_, by rw [e0] at h5 ⊢; omega, fun rest hr => ?_⟩
    · rw [take_drop_succ (a := B a) h1 hi, e1, List.append_nil, ← List.append_assoc, h4, tb, hb]
    · rw [if_neg (by decide)]
      exact h6 _ hr
theorem Inv.del {a b : ByteArray} {ls : List S30} {op : Bool} {i j : Nat} {e : S30} (h : Inv a b ls op i j e) (hi : i < a.size) (hc : C a b i j = 1 + C a b (i + 1) j) :
    Inv a b ls true (i + 1) j ⟨(cur op i e).f0, (cur op i e).f1 + 1, (cur op i e).f2⟩ := by
  obtain ⟨f, out, q, c, p, d, ins, he, h1, h2, h3, h4, h5, h6⟩ := h.ex
  rw [he]
  refine ⟨hi, h.lj, f, out, q, c, p, d + 1, ins, ?_, h1, h2, by omega, h4, by omega, h6⟩
  exact S30_ext rfl (by show (d : Int) + 1 = _; omega) rfl
theorem Inv.ins {a b : ByteArray} {ls : List S30} {op : Bool} {i j : Nat} {e : S30} (h : Inv a b ls op i j e) (hj : j < b.size) (hc : C a b i j = 1 + C a b i (j + 1)) :
    Inv a b ls true i (j + 1) ⟨(cur op i e).f0, (cur op i e).f1, (cur op i e).f2 ++ b.extract j (j + 1)⟩ := by
  obtain ⟨f, out, q, c, p, d, ins, he, h1, h2, h3, h4, h5, h6⟩ := h.ex
  rw [he]
  have s : (ins ++ b.extract j (j + 1)).size = ins.size + 1 := by rw [ByteArray.size_append, ByteArray.size_extract]; omega
  have tb : (B b).take (j + 1) = (B b).take j ++ [(B b)[j]'hj] := List.take_succ_eq_append_getElem hj
  have x : B (b.extract j (j + 1)) = [(B b)[j]'hj] := by
    rw [B_ext, take_drop_succ (a := B b) (Nat.le_refl _) hj, List.drop_of_length_le (by rw [List.length_take]; omega), List.nil_append]
  refine ⟨h.li, hj, f, out, q, c, p, d, ins ++ b.extract j (j + 1), rfl, h1, h2, h3, ?_, by rw [s]; omega, h6⟩
  rw [B_app, ← List.append_assoc, h4, x, tb]
theorem Inv.done {a b : ByteArray} {ls : List S30} {op : Bool} {i j : Nat} {e : S30} (h : Inv a b ls op i j e) (hi : i = a.size) (hj : j = b.size) :
    Run (B a) (B b) (C a b 0 0) false [] 0 0 (if op = true then ls ++ [e] else ls) := by
  obtain ⟨f, out, q, c, p, d, ins, he, h1, h2, h3, h4, h5, h6⟩ := h.ex
  have e0 : (⟨#[]⟩ : ByteArray).size = 0 := rfl
  have e1 : B (⟨#[]⟩ : ByteArray) = [] := rfl
  have z := C_left a b (j := j) hi
  have tb : (B b).take j = B b := List.take_of_length_le (by rw [B_len]; omega)
  cases op with
  | true =>
    have ee : e = ⟨(p : Int), (d : Int), ins⟩ := he
    rw [if_pos rfl, ee]
    refine h6 _ (Run.cons h1 h2 (by rw [B_len]; omega) (Run.nil (by rw [B_len]; omega) ?_ (by omega)))
    rw [h4, tb, h3, List.drop_of_length_le (by rw [B_len]; omega), List.append_nil]
  | false =>
    have ee : (⟨(i : Int), 0, ⟨#[]⟩⟩ : S30) = ⟨(p : Int), (d : Int), ins⟩ := he
    injection ee with g0 g1 g2
    obtain rfl : i = p := by omega
    obtain rfl : d = 0 := by omega
    subst g2
    rw [e1, List.append_nil, List.take_of_length_le (l := B a) (by rw [B_len]; omega)] at h4
    rw [if_neg (by decide)]
    have := h6 [] (Run.nil (by rw [B_len]; omega) (h4.trans tb) (by rw [e0] at h5; omega))
    rwa [List.append_nil] at this

theorem l0_spec {a b : ByteArray} (ha : a.size ≤ 1000) (hb : b.size ≤ 1000) : ∀ (k : Nat) (ls : List S30) (op : Bool) (i j : Nat) (e : S30), a.size + b.size < i + j + k → Inv a b ls op i j e →
    ∃ l, textdiff_Diff.l0 a b (Of.table a b) k ls op i j e = some l ∧ Run (B a) (B b) (C a b 0 0) false [] 0 0 l
  | 0, ls, op, i, j, e, hk, h => by have := h.li; have := h.lj; omega
  | k + 1, ls, op, i, j, e, hk, h => by
    have hi := h.li
    have hj := h.lj
    rw [textdiff_Diff.l0]
    by_cases c1 : i < a.size ∨ j < b.size
    · rw [if_pos c1]
      by_cases c2 : i < a.size ∧ j < b.size ∧ bt a (i : Int) = bt b (j : Int)
      · rw [if_pos c2]
        exact l0_spec ha hb k _ _ _ _ _ (by omega) (h.keep c2.1 c2.2.1 c2.2.2)
      · rw [if_neg c2]
        have e2 : (((i : Int) + 1) * ((b.size : Int) + 1) + (j : Int)) = (((i + 1) * (b.size + 1) + j : Nat) : Int) := by simp
        have e3 : ((i : Int) * ((b.size : Int) + 1) + ((j : Int) + 1)) = ((i * (b.size + 1) + (j + 1) : Nat) : Int) := by simp
        by_cases c3 : textdiff_Diff.del a b (Of.table a b) i j
        · rw [if_pos c3]
          have hia : i < a.size := by
            rcases c3 with c3 | c3
            · omega
            · exact c3.1
          refine l0_spec ha hb k _ _ _ _ _ (by omega) (h.del hia ?_)
          by_cases c4 : j = b.size
          · rw [C_right a b c4, C_right a b c4]; omega
          · rcases c3 with c3 | ⟨_, c3⟩
            · exact absurd c3 c4
            · rw [e2, e3, table_C ha hb (i + 1) j hia hj, table_C ha hb i (j + 1) hi (by omega)] at c3
              rw [C_ne hia (by omega) (fun g => c2 ⟨hia, by omega, g⟩), Nat.min_eq_left (by omega)]
        · rw [if_neg c3]
          unfold textdiff_Diff.del at c3
          have c4 : ¬ j = b.size := fun g => c3 (.inl g)
          refine l0_spec ha hb k _ _ _ _ _ (by omega) (h.ins (by omega) ?_)
          by_cases c5 : i = a.size
          · rw [C_left a b c5, C_left a b c5]; omega
          · have c6 : ¬ rd (Of.table a b) (((i : Int) + 1) * ((b.size : Int) + 1) + (j : Int)) ≤ rd (Of.table a b) ((i : Int) * ((b.size : Int) + 1) + ((j : Int) + 1)) := fun g => c3 (.inr ⟨Nat.lt_of_le_of_ne hi c5, g⟩)
            rw [e2, e3, table_C ha hb (i + 1) j (by omega) hj, table_C ha hb i (j + 1) hi (by omega)] at c6
            rw [C_ne (by omega) (by omega) (fun g => c2 ⟨by omega, by omega, g⟩), Nat.min_eq_right (by omega)]
    · rw [if_neg c1]
      exact ⟨_, rfl, h.done (by omega) (by omega)⟩
/-- DIFF -/
theorem diff_spec {a b : ByteArray} (ha : a.size ≤ 1000) (hb : b.size ≤ 1000) : ∃ l, textdiff_Diff.f a b = some l ∧ Run (B a) (B b) (D (B a) (B b)) false [] 0 0 l := by
  obtain ⟨l, hl, hr⟩ := l0_spec ha hb (a.size + b.size + 1) [] false 0 0 ⟨0, 0, ⟨#[]⟩⟩ (by omega)
    ⟨Nat.zero_le _, Nat.zero_le _, false, [], 0, 0, 0, 0, ⟨#[]⟩, rfl, Nat.le_refl _, (fun g => Bool.noConfusion g), rfl, rfl, (by show 0 + 0 + 0 + C a b 0 0 = C a b 0 0; omega), fun rest hr => hr⟩
  refine ⟨l, ?_, hr⟩
  unfold textdiff_Diff.f
  rw [if_pos ⟨ha, hb⟩, hl]
end Go.Proofs.Ythhgfagnallcnaa.Dif
