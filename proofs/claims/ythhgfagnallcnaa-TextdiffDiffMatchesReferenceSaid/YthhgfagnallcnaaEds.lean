/- The distance of two lists of bytes by least number of deletions and insertions, and its laws (plain Lean, no program in sight). -/
import Derived.RowKit
namespace Go.Proofs.Ythhgfagnallcnaa.Eds
set_option linter.unusedVariables false

abbrev L := List UInt8

/-- the distance as the tables fill it -/
def D : L → L → Nat
  | [], l => l.length
  | x :: xs, [] => (x :: xs).length
  | x :: xs, y :: ys => if x = y then D xs ys else 1 + min (D xs (y :: ys)) (D (x :: xs) ys)
termination_by a b => a.length + b.length

theorem D_nil (l : L) : D [] l = l.length := by unfold D; rfl
theorem D_nil' (l : L) : D l [] = l.length := by cases l <;> (unfold D; rfl)
theorem D_cons (x y : UInt8) (xs ys : L) : D (x :: xs) (y :: ys) = if x = y then D xs ys else 1 + min (D xs (y :: ys)) (D (x :: xs) ys) := by rw [D]
theorem D_same (x : UInt8) (xs ys : L) : D (x :: xs) (x :: ys) = D xs ys := by rw [D_cons, if_pos rfl]
theorem D_ne {x y : UInt8} (h : x ≠ y) (xs ys : L) : D (x :: xs) (y :: ys) = 1 + min (D xs (y :: ys)) (D (x :: xs) ys) := by rw [D_cons, if_neg h]

/-- scripts of k deletions and insertions -/
inductive E : Nat → L → L → Prop
  | nil : E 0 [] []
  | keep (c : UInt8) {k : Nat} {xs ys : L} : E k xs ys → E k (c :: xs) (c :: ys)
  | del (c : UInt8) {k : Nat} {xs ys : L} : E k xs ys → E (k + 1) (c :: xs) ys
  | ins (c : UInt8) {k : Nat} {xs ys : L} : E k xs ys → E (k + 1) xs (c :: ys)

theorem E.refl : ∀ l : L, E 0 l l
  | [] => .nil
  | c :: l => .keep c (E.refl l)
theorem E.symm {k : Nat} {a b : L} (h : E k a b) : E k b a := by
  induction h with
  | nil => exact .nil
  | keep c _ ih => exact .keep c ih
  | del c _ ih => exact .ins c ih
  | ins c _ ih => exact .del c ih
theorem E.insAll : ∀ l : L, E l.length [] l
  | [] => .nil
  | c :: l => .ins c (E.insAll l)
theorem E.delAll (l : L) : E l.length l [] := (E.insAll l).symm
theorem E.append {k m : Nat} {a b c d : L} (h : E k a b) (g : E m c d) : E (k + m) (a ++ c) (b ++ d) := by
  induction h with
  | nil => rw [Nat.zero_add]; exact g
  | keep c _ ih => exact .keep c ih
  | @del c k _ _ _ ih => rw [Nat.add_right_comm]; exact .del c ih
  | @ins c k _ _ _ ih => rw [Nat.add_right_comm]; exact .ins c ih
theorem E.reverse {k : Nat} {a b : L} (h : E k a b) : E k a.reverse b.reverse := by
  induction h with
  | nil => exact .nil
  | keep c _ ih => rw [List.reverse_cons, List.reverse_cons]; exact ih.append (.keep c .nil)
  | @del c k xs ys _ ih =>
    rw [List.reverse_cons]
    have := ih.append (.del c .nil)
    rwa [List.append_nil] at this
  | @ins c k xs ys _ ih =>
    rw [List.reverse_cons]
    have := ih.append (.ins c .nil)
    rwa [List.append_nil] at this
/-- every distance has its script -/
theorem E.ofD : ∀ (n : Nat) (a b : L), a.length + b.length ≤ n → E (D a b) a b
  | _, [], l, _ => by rw [D_nil]; exact E.insAll l
  | _, x :: xs, [], _ => by rw [D_nil']; exact E.delAll _
  | 0, x :: xs, y :: ys, h => by simp at h
  | n + 1, x :: xs, y :: ys, h => by
    simp only [List.length_cons] at h
    by_cases e : x = y
    · subst e; rw [D_same]; exact .keep x (E.ofD n xs ys (by omega))
    · rw [D_ne e, Nat.add_comm]
      by_cases hm : D xs (y :: ys) ≤ D (x :: xs) ys
      · rw [Nat.min_eq_left hm]; exact .del x (E.ofD n xs (y :: ys) (by simp only [List.length_cons]; omega))
      · rw [Nat.min_eq_right (by omega)]; exact .ins y (E.ofD n (x :: xs) ys (by simp only [List.length_cons]; omega))
theorem E.of (a b : L) : E (D a b) a b := E.ofD _ a b (Nat.le_refl _)
/-- to leave a byte of the left side out costs one at most -/
theorem E.drop {k : Nat} {a b : L} (h : E k a b) : ∀ (x : UInt8) (xs : L), a = x :: xs → ∃ m, m ≤ k + 1 ∧ E m xs b := by
  induction h with
  | nil => intro x xs e; cases e
  | keep c g ih => intro x xs e; cases e; exact ⟨_, Nat.le_refl _, .ins c g⟩
  | del c g ih => intro x xs e; cases e; exact ⟨_, by omega, g⟩
  | ins c g ih => intro x xs e; obtain ⟨m, hm, hE⟩ := ih x xs e; exact ⟨_, by omega, .ins c hE⟩
theorem E.tail {k : Nat} {x : UInt8} {xs ys : L} (h : E k (x :: xs) (x :: ys)) : ∃ m, m ≤ k ∧ E m xs ys := by
  cases h with
  | keep _ g => exact ⟨_, Nat.le_refl _, g⟩
  | del _ g => obtain ⟨m, hm, hE⟩ := g.symm.drop x ys rfl; exact ⟨m, hm, hE.symm⟩
  | ins _ g => exact g.drop x xs rfl
theorem E.size {k : Nat} {a b : L} (h : E k a b) : b.length ≤ a.length + k ∧ a.length ≤ b.length + k ∧ k ≤ a.length + b.length := by
  induction h with
  | nil => exact ⟨Nat.le_refl _, Nat.le_refl _, Nat.le_refl _⟩
  | keep c _ ih => simp only [List.length_cons]; omega
  | del c _ ih => simp only [List.length_cons]; omega
  | ins c _ ih => simp only [List.length_cons]; omega
/-- no script is shorter than the distance -/
theorem D_leN : ∀ (n : Nat) (a b : L) (k : Nat), a.length + b.length ≤ n → E k a b → D a b ≤ k
  | _, [], l, k, _, h => by rw [D_nil]; have := h.size; simp only [List.length_nil] at this; omega
  | _, x :: xs, [], k, _, h => by rw [D_nil']; have := h.size; simp only [List.length_nil] at this; omega
  | 0, x :: xs, y :: ys, k, l, h => by simp at l
  | n + 1, x :: xs, y :: ys, k, l, h => by
    simp only [List.length_cons] at l
    by_cases e : x = y
    · subst e; rw [D_same]; obtain ⟨m, hm, hE⟩ := h.tail; have := D_leN n xs ys m (by omega) hE; omega
    · rw [D_ne e]
      cases h with
      | keep _ g => exact absurd rfl e
      | del _ g => have := D_leN n xs (y :: ys) _ (by simp only [List.length_cons]; omega) g; omega
      | ins _ g => have := D_leN n (x :: xs) ys _ (by simp only [List.length_cons]; omega) g; omega
theorem D_le {a b : L} {k : Nat} (h : E k a b) : D a b ≤ k := D_leN _ a b k (Nat.le_refl _) h
theorem D_symm (a b : L) : D a b = D b a := Nat.le_antisymm (D_le (E.of b a).symm) (D_le (E.of a b).symm)
theorem D_self (a : L) : D a a = 0 := Nat.le_zero.1 (D_le (E.refl a))
theorem E.eq {k : Nat} {a b : L} (h : E k a b) : k = 0 → a = b := by
  induction h with
  | nil => intro _; rfl
  | keep c _ ih => intro e; rw [ih e]
  | del c _ ih => intro e; cases e
  | ins c _ ih => intro e; cases e
theorem D_zero (a b : L) : D a b = 0 ↔ a = b := ⟨fun h => (E.of a b).eq h, fun h => h ▸ D_self a⟩
theorem D_size (a b : L) : D a b ≤ a.length + b.length := (E.of a b).size.2.2
/-- scripts one after another -/
theorem E.trans {k : Nat} {a b : L} (h : E k a b) : ∀ (m : Nat) (c : L), E m b c → ∃ n, n ≤ k + m ∧ E n a c := by
  induction h with
  | nil => intro m c g; exact ⟨m, by omega, g⟩
  | @keep c k xs ys _ ih =>
    suffices H : ∀ (m : Nat) (b z : L), E m b z → b = c :: ys → ∃ n, n ≤ k + m ∧ E n (c :: xs) z from fun m z g => H m _ z g rfl
    intro m b z g
    induction g with
    | nil => intro e; cases e
    | keep d g _ => intro e; cases e; obtain ⟨n, hn, hE⟩ := ih _ _ g; exact ⟨n, hn, .keep c hE⟩
    | del d g _ => intro e; cases e; obtain ⟨n, hn, hE⟩ := ih _ _ g; exact ⟨n + 1, by omega, .del c hE⟩
    | ins d g ih2 => intro e; obtain ⟨n, hn, hE⟩ := ih2 e; exact ⟨n + 1, by omega, .ins d hE⟩
  | del c _ ih => intro m z g; obtain ⟨n, hn, hE⟩ := ih m z g; exact ⟨n + 1, by omega, .del c hE⟩
  | @ins c k xs ys _ ih =>
    suffices H : ∀ (m : Nat) (b z : L), E m b z → b = c :: ys → ∃ n, n ≤ k + 1 + m ∧ E n xs z from fun m z g => H m _ z g rfl
    intro m b z g
    induction g with
    | nil => intro e; cases e
    | keep d g _ => intro e; cases e; obtain ⟨n, hn, hE⟩ := ih _ _ g; exact ⟨n + 1, by omega, .ins c hE⟩
    | del d g _ => intro e; cases e; obtain ⟨n, hn, hE⟩ := ih _ _ g; exact ⟨n, by omega, hE⟩
    | ins d g ih2 => intro e; obtain ⟨n, hn, hE⟩ := ih2 e; exact ⟨n + 1, by omega, .ins d hE⟩
theorem D_triangle (a b c : L) : D a c ≤ D a b + D b c := by
  obtain ⟨n, hn, hE⟩ := (E.of a b).trans _ _ (E.of b c)
  exact Nat.le_trans (D_le hE) hn
theorem D_reverse (a b : L) : D a.reverse b.reverse = D a b := by
  refine Nat.le_antisymm (D_le (E.of a b).reverse) ?_
  have := D_le (E.of a.reverse b.reverse).reverse
  rwa [List.reverse_reverse, List.reverse_reverse] at this
theorem D_prefix : ∀ (c a b : L), D (c ++ a) (c ++ b) = D a b
  | [], _, _ => rfl
  | x :: c, a, b => by rw [List.cons_append, List.cons_append, D_same, D_prefix c a b]
theorem D_suffix (c a b : L) : D (a ++ c) (b ++ c) = D a b := by
  rw [← D_reverse, List.reverse_append, List.reverse_append, D_prefix, D_reverse]
/-- one edit -/
theorem D_edit (p q d i : L) : D (p ++ d ++ q) (p ++ i ++ q) ≤ d.length + i.length := by
  rw [D_suffix, D_prefix]
  exact D_size d i
end Go.Proofs.Ythhgfagnallcnaa.Eds
