/- The trees of a rope, their texts and the height bound (plain Lean, no program in sight). -/
import Derived.RowKit
import Derived.Lib.BitFns
namespace Go.Proofs.Ytmoceagbmgoijaa.Tre
set_option linter.unusedVariables false

abbrev L := List UInt8
def B (a : ByteArray) : L := a.data.toList
theorem B_len (a : ByteArray) : (B a).length = a.size := rfl
theorem B_ext (a : ByteArray) (p q : Nat) : B (a.extract p q) = ((B a).take q).drop p := by
  unfold B
  rw [ByteArray.data_extract, Array.toList_extract, List.extract_eq_take_drop, List.drop_take]
theorem B_app (a b : ByteArray) : B (a ++ b) = B a ++ B b := by unfold B; rw [ByteArray.data_append, Array.toList_append]
theorem B_inj {a b : ByteArray} (h : B a = B b) : a = b := by
  cases a; cases b
  unfold B at h
  simp only [Array.toList_inj] at h ⊢
  rw [h]
theorem B_nil : B ⟨#[]⟩ = [] := rfl
theorem app_assoc (a b c : ByteArray) : (a ++ b) ++ c = a ++ (b ++ c) := B_inj (by simp only [B_app, List.append_assoc])
theorem nil_app (a : ByteArray) : (⟨#[]⟩ : ByteArray) ++ a = a := B_inj (by rw [B_app, B_nil, List.nil_append])
theorem app_nil (a : ByteArray) : a ++ (⟨#[]⟩ : ByteArray) = a := B_inj (by rw [B_app, B_nil, List.append_nil])
theorem size_zero {a : ByteArray} (h : a.size = 0) : a = ⟨#[]⟩ := B_inj (List.length_eq_zero_iff.1 h)
theorem cut_join (s : ByteArray) (k : Nat) (h : k ≤ s.size) : s.extract 0 k ++ s.extract k s.size = s := by
  apply B_inj
  rw [B_app, B_ext, B_ext, List.drop_zero, List.take_of_length_le (l := B s) (i := s.size) (by rw [B_len]; omega), List.take_append_drop]

/-- a tree: leaves with a text, inner nodes -/
inductive T
  | leaf (s : ByteArray)
  | node (l r : T)
def T.text : T → ByteArray
  | .leaf s => s
  | .node l r => l.text ++ r.text
def T.size : T → Nat
  | .leaf s => s.size
  | .node l r => l.size + r.size
def T.height : T → Nat
  | .leaf _ => 0
  | .node l r => 1 + max l.height r.height
/-- the texts of the leaves, in order -/
def T.leaves : T → List ByteArray
  | .leaf s => [s]
  | .node l r => l.leaves ++ r.leaves
theorem T.text_size : ∀ t : T, t.text.size = t.size
  | .leaf s => rfl
  | .node l r => by rw [T.text, T.size, ByteArray.size_append, T.text_size l, T.text_size r]

/-- how many bits a number has -/
def bl (n : Nat) : Nat := Lib.bitLen n
/-- the height bound of a length -/
def bnd (n : Nat) : Nat := if n ≤ 64 then 0 else 2 * bl ((n + 63) / 64 - 1) + 2
/-- what the package keeps: no leaf is empty or long, every inner node is larger than a leaf may be and not too high -/
inductive OK : T → Prop
  | leaf {s : ByteArray} : 1 ≤ s.size → s.size ≤ 64 → OK (.leaf s)
  | node {l r : T} : OK l → OK r → 64 < (T.node l r).size → (T.node l r).height ≤ bnd (T.node l r).size → OK (.node l r)
theorem OK.pos {t : T} (h : OK t) : 1 ≤ t.size := by
  induction h with
  | leaf h1 _ => exact h1
  | node _ _ h _ _ _ => omega
theorem OK.high {t : T} (h : OK t) : t.height ≤ bnd t.size := by
  cases h with
  | leaf h1 h2 => exact Nat.zero_le _
  | node _ _ _ h => exact h
theorem OK.leaves {t : T} (h : OK t) : ∀ s ∈ t.leaves, 1 ≤ s.size ∧ s.size ≤ 64 := by
  induction h with
  | leaf h1 h2 => intro s hs; rw [T.leaves, List.mem_singleton] at hs; subst hs; exact ⟨h1, h2⟩
  | node _ _ _ _ i1 i2 =>
    intro s hs
    rw [T.leaves, List.mem_append] at hs
    rcases hs with hs | hs
    · exact i1 s hs
    · exact i2 s hs

theorem blAux_le : ∀ (k x : Nat), x < 2 ^ k → x < 2 ^ Lib.bitLenAux k x := by
  intro k
  induction k with
  | zero => intro x hx; simpa [Lib.bitLenAux] using hx
  | succ k ih =>
    intro x hx
    unfold Lib.bitLenAux
    split
    · subst_vars; exact Nat.lt_of_lt_of_le Nat.zero_lt_one (Nat.one_le_two_pow)
    · have := ih (x / 2) (by rw [Nat.pow_succ] at hx; omega)
      rw [Nat.add_comm 1, Nat.pow_succ]
      omega
theorem bl_spec (n : Nat) (h : n < 65536) : n < 2 ^ bl n :=
  blAux_le 64 n (Nat.lt_of_lt_of_le h (Nat.le_trans (show 65536 ≤ 2 ^ 16 by decide) (Nat.pow_le_pow_right (by decide) (by decide))))
/-- a tree of halves is not too high -/
theorem bnd_of_pow {n h : Nat} (hn : n ≤ 100000) (h1 : ∀ k : Nat, n ≤ 64 * 2 ^ k → h ≤ k) : h ≤ bnd n := by
  unfold bnd
  split
  · rename_i c
    exact h1 0 (by omega)
  · have hb := bl_spec ((n + 63) / 64 - 1) (by omega)
    have := h1 (bl ((n + 63) / 64 - 1)) (by omega)
    omega

/-- the tree of an optional node: its text, size, height -/
def txt : Option T → ByteArray
  | none => ⟨#[]⟩
  | some t => t.text
def siz : Option T → Nat
  | none => 0
  | some t => t.size
def hgt : Option T → Nat
  | none => 0
  | some t => t.height
def lvs : Option T → List ByteArray
  | none => []
  | some t => t.leaves
def Ok : Option T → Prop
  | none => True
  | some t => OK t
theorem txt_size (o : Option T) : (txt o).size = siz o := by
  cases o with
  | none => rfl
  | some t => exact t.text_size
theorem Ok.high {o : Option T} (h : Ok o) : hgt o ≤ bnd (siz o) := by
  cases o with
  | none => exact Nat.zero_le _
  | some t => exact OK.high h
theorem Ok.none_iff {o : Option T} (h : Ok o) : siz o = 0 ↔ o = none := by
  cases o with
  | none => exact ⟨fun _ => rfl, fun _ => rfl⟩
  | some t => exact ⟨fun e => by have := OK.pos h; change t.size = 0 at e; omega, fun e => by cases e⟩
theorem Ok.lvs {o : Option T} (h : Ok o) : ∀ s ∈ lvs o, 1 ≤ s.size ∧ s.size ≤ 64 := by
  cases o with
  | none => intro s hs; cases hs
  | some t => exact OK.leaves h
/-- the texts of the leaves, one after another -/
def cat : List ByteArray → ByteArray
  | [] => ⟨#[]⟩
  | s :: l => s ++ cat l
theorem cat_app : ∀ l m : List ByteArray, cat (l ++ m) = cat l ++ cat m
  | [], m => (nil_app _).symm
  | s :: l, m => by rw [List.cons_append, cat, cat, cat_app l m, app_assoc]
theorem T.cat_leaves : ∀ t : T, cat t.leaves = t.text
  | .leaf s => app_nil s
  | .node l r => by rw [T.leaves, cat_app, T.cat_leaves l, T.cat_leaves r, T.text]
theorem cat_lvs (o : Option T) : cat (lvs o) = txt o := by
  cases o with
  | none => rfl
  | some t => exact t.cat_leaves

/-! cutting -/
theorem ext_all (s : ByteArray) {k : Nat} (h : s.size ≤ k) : s.extract 0 k = s := by
  apply B_inj
  rw [B_ext, List.drop_zero, List.take_of_length_le (by rw [B_len]; omega)]
theorem ext_nil (s : ByteArray) {p q : Nat} (h : q ≤ p) : s.extract p q = ⟨#[]⟩ := by
  apply B_inj
  rw [B_ext, B_nil, List.drop_of_length_le (by rw [List.length_take]; omega)]
theorem ext_left (a b : ByteArray) {p q : Nat} (h : q ≤ a.size) : (a ++ b).extract p q = a.extract p q := by
  apply B_inj
  rw [B_ext, B_ext, B_app, List.take_append_of_le_length (by rw [B_len]; exact h)]
theorem ext_right (a b : ByteArray) {p q : Nat} (h : a.size ≤ p) : (a ++ b).extract p q = b.extract (p - a.size) (q - a.size) := by
  apply B_inj
  rw [B_ext, B_ext, B_app, List.take_append, List.drop_append, B_len, List.drop_of_length_le (l := (B a).take q) (by rw [List.length_take, B_len]; omega), List.nil_append, List.length_take, B_len]
  by_cases hq : a.size ≤ q
  · rw [Nat.min_eq_right hq]
  · have e : q - a.size = 0 := by omega
    rw [e, List.take_zero, List.drop_nil, List.drop_nil]
theorem ext_mid (a b : ByteArray) {p q : Nat} (h1 : p ≤ a.size) (h2 : a.size ≤ q) : (a ++ b).extract p q = a.extract p a.size ++ b.extract 0 (q - a.size) := by
  apply B_inj
  rw [B_app, B_ext, B_ext, B_ext, B_app, List.take_append, List.drop_append, B_len, List.take_of_length_le (l := B a) (i := q) (by rw [B_len]; omega), List.take_of_length_le (l := B a) (i := a.size) (by rw [B_len]; omega), B_len,
    show p - a.size = 0 by omega]
theorem ext_ext (s : ByteArray) {p q u v : Nat} (hp : p ≤ q) (h : v ≤ q - p) : (s.extract p q).extract u v = s.extract (p + u) (p + v) := by
  apply B_inj
  rw [B_ext, B_ext, B_ext, List.take_drop, List.take_take, Nat.min_eq_left (by omega), List.drop_drop]
end Go.Proofs.Ytmoceagbmgoijaa.Tre
