/- The pure statement of TextdiffDiffTransforms: for all strings of at most 80 bytes the edits of Diff transform a into b, in increasing places that do not touch, and delete and insert exactly as many bytes as the distance. -/
import Derived.Test.YthhgfagnallcnaaSayTextdiffDiffTransforms
import Derived.Test.YthhgfagnallcnaaAwa
import Derived.Test.YthhgfagnallcnaaDif
set_option linter.unusedVariables false
namespace Go.Proofs.Ythhgfagnallcnaa.textdiffDiffTransforms
open Go.RowKit Go.Proofs.Ythhgfagnallcnaa.PA Go.Proofs.YthhgfagnallcnaaW.PrintWords Go.Proofs.YthhgfagnallcnaaW.PrintLast Go.Proofs.Ythhgfagnallcnaa.Eds Go.Proofs.Ythhgfagnallcnaa.Tbl Go.Proofs.Ythhgfagnallcnaa.Awa Go.Proofs.Ythhgfagnallcnaa.Dif

theorem wr {x : Int} {n : Nat} (h : x = (n : Int)) (hn : n ≤ 2000000) : wrap64 x = (n : Int) := by subst h; unfold wrap64; omega
theorem rd_mid (pre : List S30) (x : S30) (rest : List S30) : rd_T30 (pre ++ x :: rest) (pre.length : Int) = x := by
  unfold rd_T30
  rw [Int.toNat_natCast, List.getD_eq_getElem?_getD, List.getElem?_append_right (Nat.le_refl _), Nat.sub_self]
  rfl
theorem B_inj {a b : ByteArray} (h : B a = B b) : a = b := by
  cases a; cases b
  unfold B at h
  simp only [Array.toList_inj] at h ⊢
  rw [h]

/-- Together, over the edits that are left -/
theorem tog {a b : ByteArray} (ha : a.size ≤ 1000) (hb : b.size ≤ 1000) {N : Nat} : ∀ (rest : List S30) (f : Bool) (out : ByteArray) (q c : Nat) (pre : List S30) (k : Nat), Run (B a) (B b) N f (B out) q c rest → rest.length < k → pre.length + rest.length ≤ 1000000 →
    emendateref06_Together.l0 k a (pre ++ rest) out q (pre.length : Int) = some (b, true)
  | [], f, out, q, c, pre, k, h, hk, hl => by
    obtain ⟨k, rfl⟩ : ∃ j, k = j + 1 := ⟨k - 1, by omega⟩
    have hn := h.len
    cases h with
    | nil h1 h2 h3 =>
      rw [B_len] at h1
      rw [B_len, B_len] at hn
      rw [List.append_nil, emendateref06_Together.l0]
      have e1 : ((q : Nat) : Int).toNat = q := rfl
      simp only [e1]
      have s : (a.extract q a.size).size = a.size - q := by rw [ByteArray.size_extract]; omega
      rw [if_neg (by omega), if_pos (by omega), if_pos (by omega), if_pos (by omega)]
      have e : out ++ a.extract q a.size = b := by
        apply B_inj
        rw [B_app, B_ext, List.take_of_length_le (l := B a) (by rw [B_len]; omega)]
        exact h2
      rw [e]
  | x :: rest, f, out, q, c, pre, k, h, hk, hl => by
    obtain ⟨k, rfl⟩ : ∃ j, k = j + 1 := ⟨k - 1, by omega⟩
    rw [List.length_cons] at hk hl
    cases h with
    | @cons _ _ _ _ p d ins _ h1 h2 h3 h4 =>
      have hn := h4.len
      rw [B_len] at h3 hn
      have lo : (B out).length = out.size := rfl
      have li : (B ins).length = ins.size := rfl
      rw [List.length_append, List.length_append, lo, li, List.length_drop, List.length_take, B_len] at hn
      rw [emendateref06_Together.l0]
      have w1 : Aside0 (wrap64 ((a.size : Int) - p) = ((a.size - p : Nat) : Int)) := Aside0.mk (wr (by omega) (by omega))
      have w2 : Aside0 (wrap64 ((p : Int) + d) = ((p + d : Nat) : Int)) := Aside0.mk (wr (by omega) (by omega))
      have w3 : Aside0 (wrap64 ((pre.length : Int) + 1) = ((pre.length + 1 : Nat) : Int)) := Aside0.mk (wr (by omega) (by omega))
      have e1 : ((q : Nat) : Int).toNat = q := rfl
      have e2 : ((p : Nat) : Int).toNat = p := rfl
      simp only [rd_mid, w1.out, w2.out, w3.out, e1, e2]
      clear w1 w2 w3
      have s1 : (a.extract q p).size = p - q := by rw [ByteArray.size_extract]; omega
      have s2 : (out ++ a.extract q p).size = out.size + (p - q) := by rw [ByteArray.size_append, s1]
      have ll : (pre ++ (⟨(p : Int), (d : Int), ins⟩ : S30) :: rest).length = pre.length + rest.length + 1 := by rw [List.length_append, List.length_cons]; omega
      rw [if_pos (by omega), if_pos (by omega), if_neg (by omega), if_neg (by omega), if_neg (by omega), if_neg (by omega), if_pos (by omega), if_pos (by omega), if_pos (by omega), if_pos (by omega), if_pos (by omega)]
      have := tog ha hb rest true ((out ++ a.extract q p) ++ ins) (p + d) _ (pre ++ [⟨(p : Int), (d : Int), ins⟩]) k (by rw [B_app, B_app, B_ext]; exact h4) (by omega) (by rw [List.length_append]; exact (by show pre.length + 1 + rest.length ≤ 1000000; omega))
      rw [List.append_assoc, List.length_append] at this
      exact this
/-- the edits are at increasing places, so they are few -/
theorem count1 {a b : L} {N : Nat} {f : Bool} {out : L} {q c : Nat} {rest : List S30} (h : Run a b N f out q c rest) : f = true → rest.length + q ≤ a.length := by
  induction h with
  | nil h1 h2 h3 => intro _; rw [List.length_nil]; omega
  | cons h1 h2 h3 _ ih => intro hf; have := h2 hf; have := ih rfl; rw [List.length_cons]; omega
theorem count {a b : L} {N : Nat} {f : Bool} {out : L} {q c : Nat} {rest : List S30} (h : Run a b N f out q c rest) : rest.length ≤ a.length + 1 := by
  cases h with
  | nil h1 h2 h3 => rw [List.length_nil]; omega
  | cons h1 h2 h3 h4 => have := count1 h4 rfl; rw [List.length_cons]; omega

/-- the law's own loop, over the edits that are left -/
theorem loop {a b : ByteArray} (ha : a.size ≤ 1000) (hb : b.size ≤ 1000) (l : List S30) (hl : l.length ≤ 2000) (hr : Run (B a) (B b) (D (B a) (B b)) false [] 0 0 l) : ∀ (rest : List S30) (f : Bool) (out : L) (q c : Nat) (pre : List S30) (k : Nat), Run (B a) (B b) (D (B a) (B b)) f out q c rest → 3000 + rest.length < k → l = pre ++ rest →
    (0 < pre.length → f = true ∧ ∃ y : S30, rd_T30 l ((pre.length - 1 : Nat) : Int) = y ∧ ∃ p d : Nat, y.f0 = p ∧ y.f1 = d ∧ p + d = q) →
    emendatelaw06_TextdiffDiffTransforms.l0 k a b l c (pre.length : Int) = some true
  | [], f, out, q, c, pre, k, h, hk, he, hy => by
    obtain ⟨k, rfl⟩ : ∃ j, k = j + 1 := ⟨k - 1, by omega⟩
    cases h with
    | nil h1 h2 h3 =>
      rw [List.append_nil] at he
      rw [emendatelaw06_TextdiffDiffTransforms.l0, if_neg (by rw [he]; omega)]
      have t := tog ha hb l false ⟨#[]⟩ 0 0 [] k hr (by omega) (by rw [List.length_nil]; omega)
      have t2 : emendateref06_Together.f k a l = some (b, true) := t
      rw [t2, Option.bind_some, if_pos rfl, if_pos rfl, dist_f ha hb, Option.bind_some, h3, beq_self_eq_true]
  | x :: rest, f, out, q, c, pre, k, h, hk, he, hy => by
    obtain ⟨k, rfl⟩ : ∃ j, k = j + 1 := ⟨k - 1, by omega⟩
    rw [List.length_cons] at hk
    have hll : l.length = pre.length + rest.length + 1 := by rw [he, List.length_append, List.length_cons]; omega
    cases h with
    | @cons _ _ _ _ p d ins _ h1 h2 h3 h4 =>
      have hn := h4.len
      rw [B_len] at h3 hn
      have hD := D_size (B a) (B b)
      rw [B_len, B_len] at hD
      have hx : rd_T30 l (pre.length : Int) = ⟨(p : Int), (d : Int), ins⟩ := by rw [he]; exact rd_mid _ _ _
      have w3 : Aside0 (wrap64 ((pre.length : Int) + 1) = ((pre.length + 1 : Nat) : Int)) := Aside0.mk (wr (by omega) (by omega))
      have w4 : Aside0 (wrap64 ((c : Int) + d) = ((c + d : Nat) : Int)) := Aside0.mk (wr (by omega) (by omega))
      have w5 : Aside0 (wrap64 (((c + d : Nat) : Int) + (ins.size : Int)) = ((c + d + ins.size : Nat) : Int)) := Aside0.mk (wr (by omega) (by omega))
      rw [emendatelaw06_TextdiffDiffTransforms.l0]
      have go := loop ha hb l hl hr rest true _ (p + d) (c + d + ins.size) (pre ++ [⟨(p : Int), (d : Int), ins⟩]) k h4 (by omega) (by rw [he, List.append_assoc]; rfl) (fun _ => ⟨rfl, _, rfl, p, d, by
        rw [List.length_append, List.length_singleton, Nat.add_sub_cancel, hx], by
        rw [List.length_append, List.length_singleton, Nat.add_sub_cancel, hx], rfl⟩)
      rw [List.length_append, List.length_singleton] at go
      simp only [hx, w3.out, w4.out, w5.out]
      clear w4 w5 w3
      rw [if_pos (by omega), if_pos (by omega)]
      by_cases c1 : (pre.length : Int) > 0
      · obtain ⟨hf, y, hy1, p', d', y0, y1, y2⟩ := hy (by omega)
        have w6 : Aside0 (wrap64 ((pre.length : Int) - 1) = ((pre.length - 1 : Nat) : Int)) := Aside0.mk (wr (by omega) (by omega))
        have w7 : Aside0 (wrap64 ((p' : Int) + d') = ((p' + d' : Nat) : Int)) := Aside0.mk (wr (by omega) (by omega))
        simp only [w6.out, hy1, y0, y1, w7.out]
        clear w6 w7
        have := h2 hf
        rw [if_pos c1, if_pos (by omega), if_pos (by omega), if_neg (by omega)]
        exact go
      · rw [if_neg c1]
        exact go
theorem pure : Pure := by
  intro a b _ _
  refine ⟨6000, ?_⟩
  unfold emendatelaw06_TextdiffDiffTransforms.f
  rw [awake_ex 6000 (by omega), Option.bind_some, if_pos rfl, few_ex, Option.bind_some]
  by_cases h1 : a.size ≤ 80 ∧ b.size ≤ 80
  · obtain ⟨l, hl, hr⟩ := diff_spec (a := a) (b := b) (by omega) (by omega)
    have hc : l.length ≤ 2000 := by
      have := count hr
      rw [B_len] at this
      omega
    rw [decide_eq_true h1, if_pos rfl, hl, Option.bind_some]
    exact loop (by omega) (by omega) l hc hr l false [] 0 0 [] 6000 hr (by omega) rfl (fun h => absurd h (by decide))
  · rw [decide_eq_false h1, if_neg (by decide)]

end Go.Proofs.Ythhgfagnallcnaa.textdiffDiffTransforms
