/- What the pure summaries of Hull compute: the longest common prefix and the longest common suffix behind it. -/
import Derived.Test.YthhgfagnallcnaaTbl
import Derived.Test.YthhgfagnallcnaaPAx8
namespace Go.Proofs.Ythhgfagnallcnaa.Hul
open Go.RowKit Go.Proofs.Ythhgfagnallcnaa.PA Go.Proofs.YthhgfagnallcnaaW.PrintWords Go.Proofs.Ythhgfagnallcnaa.Eds Go.Proofs.Ythhgfagnallcnaa.Tbl
set_option linter.unusedVariables false

theorem w64 {x : Int} {n : Nat} (h : x = (n : Int)) (hn : n ≤ 2000) : wrap64 x = (n : Int) := by subst h; unfold wrap64; omega

/-- one step of the loop of the suffix -/
theorem l1_step {a b : ByteArray} (ha : a.size ≤ 1000) (hb : b.size ≤ 1000) (k n s : Nat) (h1 : n + s < a.size) (h2 : n + s < b.size) :
    textdiff_Hull.l1 (k + 1) a b n s = if bt a ((a.size - 1 - s : Nat) : Int) = bt b ((b.size - 1 - s : Nat) : Int) then textdiff_Hull.l1 k a b n ((s + 1 : Nat) : Int)
      else some ((n : Int), ((a.size - n - s : Nat) : Int), b.extract n (b.size - s)) := by
  have w1 : Aside0 (wrap64 ((a.size : Int) - n) = ((a.size - n : Nat) : Int)) := Aside0.mk (w64 (by omega) (by omega))
  have w2 : Aside0 (wrap64 ((b.size : Int) - n) = ((b.size - n : Nat) : Int)) := Aside0.mk (w64 (by omega) (by omega))
  have w3 : Aside0 (wrap64 ((a.size : Int) - 1) = ((a.size - 1 : Nat) : Int)) := Aside0.mk (w64 (by omega) (by omega))
  have w4 : Aside0 (wrap64 ((b.size : Int) - 1) = ((b.size - 1 : Nat) : Int)) := Aside0.mk (w64 (by omega) (by omega))
  have w5 : Aside0 (wrap64 (((a.size - 1 : Nat) : Int) - s) = ((a.size - 1 - s : Nat) : Int)) := Aside0.mk (w64 (by omega) (by omega))
  have w6 : Aside0 (wrap64 (((b.size - 1 : Nat) : Int) - s) = ((b.size - 1 - s : Nat) : Int)) := Aside0.mk (w64 (by omega) (by omega))
  have w7 : Aside0 (wrap64 ((s : Int) + 1) = ((s + 1 : Nat) : Int)) := Aside0.mk (w64 (by omega) (by omega))
  have w8 : Aside0 (wrap64 ((b.size : Int) - s) = ((b.size - s : Nat) : Int)) := Aside0.mk (w64 (by omega) (by omega))
  have w9 : Aside0 (wrap64 (((a.size - n : Nat) : Int) - s) = ((a.size - n - s : Nat) : Int)) := Aside0.mk (w64 (by omega) (by omega))
  rw [textdiff_Hull.l1]
  simp only [w1.out, w2.out, w3.out, w4.out, w5.out, w6.out, w7.out, w8.out, w9.out]
  clear w1 w2 w3 w4 w5 w6 w7 w8 w9
  rw [if_pos (by omega), if_pos (by omega), if_pos (by omega), if_pos (by omega), if_pos (by omega), if_pos (by omega)]
  by_cases c : bt a ((a.size - 1 - s : Nat) : Int) = bt b ((b.size - 1 - s : Nat) : Int)
  · rw [if_pos c, if_pos c]
  · rw [if_neg c, if_neg c, if_pos (by omega), if_pos (by omega), if_pos (by omega)]
    rfl
theorem l1_stop {a b : ByteArray} (ha : a.size ≤ 1000) (hb : b.size ≤ 1000) (k n s : Nat) (h1 : n + s ≤ a.size) (h2 : n + s ≤ b.size) (h3 : n + s = a.size ∨ n + s = b.size) :
    textdiff_Hull.l1 (k + 1) a b n s = some ((n : Int), ((a.size - n - s : Nat) : Int), b.extract n (b.size - s)) := by
  have w1 : Aside0 (wrap64 ((a.size : Int) - n) = ((a.size - n : Nat) : Int)) := Aside0.mk (w64 (by omega) (by omega))
  have w2 : Aside0 (wrap64 ((b.size : Int) - n) = ((b.size - n : Nat) : Int)) := Aside0.mk (w64 (by omega) (by omega))
  have w8 : Aside0 (wrap64 ((b.size : Int) - s) = ((b.size - s : Nat) : Int)) := Aside0.mk (w64 (by omega) (by omega))
  have w9 : Aside0 (wrap64 (((a.size - n : Nat) : Int) - s) = ((a.size - n - s : Nat) : Int)) := Aside0.mk (w64 (by omega) (by omega))
  rw [textdiff_Hull.l1]
  simp only [w1.out, w2.out, w8.out, w9.out]
  clear w1 w2 w8 w9
  by_cases c1 : (s : Int) < ((a.size - n : Nat) : Int)
  · rw [if_pos c1, if_neg (by omega), if_pos (by omega), if_pos (by omega), if_pos (by omega)]
    rfl
  · rw [if_neg c1, if_pos (by omega), if_pos (by omega), if_pos (by omega)]
    rfl

/-- a common suffix of s bytes -/
def Suf (a b : ByteArray) (s : Nat) : Prop := ∀ i : Nat, i < s → bt a ((a.size - 1 - i : Nat) : Int) = bt b ((b.size - 1 - i : Nat) : Int)
def Pre (a b : ByteArray) (n : Nat) : Prop := ∀ i : Nat, i < n → bt a (i : Int) = bt b (i : Int)
theorem Suf.succ {a b : ByteArray} {s : Nat} (h : Suf a b s) (g : bt a ((a.size - 1 - s : Nat) : Int) = bt b ((b.size - 1 - s : Nat) : Int)) : Suf a b (s + 1) := fun i hi => by
  by_cases e : i = s
  · rw [e]; exact g
  · exact h i (by omega)
theorem Pre.succ {a b : ByteArray} {n : Nat} (h : Pre a b n) (g : bt a (n : Int) = bt b (n : Int)) : Pre a b (n + 1) := fun i hi => by
  by_cases e : i = n
  · rw [e]; exact g
  · exact h i (by omega)

structure Is (a b : ByteArray) (n s : Nat) : Prop where
  la : n + s ≤ a.size
  lb : n + s ≤ b.size
  pre : Pre a b n
  suf : Suf a b s
  pmax : n < a.size → n < b.size → ¬ bt a (n : Int) = bt b (n : Int)
  smax : n + s < a.size → n + s < b.size → ¬ bt a ((a.size - 1 - s : Nat) : Int) = bt b ((b.size - 1 - s : Nat) : Int)

theorem l1_spec {a b : ByteArray} (ha : a.size ≤ 1000) (hb : b.size ≤ 1000) (n : Nat) (hp : Pre a b n) (pm : n < a.size → n < b.size → ¬ bt a (n : Int) = bt b (n : Int)) : ∀ d s : Nat, a.size ≤ n + s + d → n + s ≤ a.size → n + s ≤ b.size → Suf a b s →
    ∃ s', Is a b n s' ∧ ∀ k, d + 1 ≤ k → textdiff_Hull.l1 k a b n s = some ((n : Int), ((a.size - n - s' : Nat) : Int), b.extract n (b.size - s'))
  | 0, s, hd, h1, h2, hs => ⟨s, ⟨h1, h2, hp, hs, pm, fun _ _ => by omega⟩, fun k hk => by
      obtain ⟨k, rfl⟩ : ∃ j, k = j + 1 := ⟨k - 1, by omega⟩
      exact l1_stop ha hb k n s h1 h2 (.inl (by omega))⟩
  | d + 1, s, hd, h1, h2, hs => by
    by_cases c : n + s < a.size ∧ n + s < b.size
    · by_cases e : bt a ((a.size - 1 - s : Nat) : Int) = bt b ((b.size - 1 - s : Nat) : Int)
      · obtain ⟨s', hI, hf⟩ := l1_spec ha hb n hp pm d (s + 1) (by omega) (by omega) (by omega) (hs.succ e)
        refine ⟨s', hI, fun k hk => ?_⟩
        obtain ⟨k, rfl⟩ : ∃ j, k = j + 1 := ⟨k - 1, by omega⟩
        rw [l1_step ha hb k n s c.1 c.2, if_pos e]
        exact hf k (by omega)
      · refine ⟨s, ⟨h1, h2, hp, hs, pm, fun _ _ => e⟩, fun k hk => ?_⟩
        obtain ⟨k, rfl⟩ : ∃ j, k = j + 1 := ⟨k - 1, by omega⟩
        rw [l1_step ha hb k n s c.1 c.2, if_neg e]
    · refine ⟨s, ⟨h1, h2, hp, hs, pm, fun x y => absurd ⟨x, y⟩ c⟩, fun k hk => ?_⟩
      obtain ⟨k, rfl⟩ : ∃ j, k = j + 1 := ⟨k - 1, by omega⟩
      exact l1_stop ha hb k n s h1 h2 (by omega)

theorem l0_step {a b : ByteArray} (ha : a.size ≤ 1000) (hb : b.size ≤ 1000) (k n : Nat) (h1 : n < a.size) (h2 : n < b.size) :
    textdiff_Hull.l0 (k + 1) a b n = if bt a (n : Int) = bt b (n : Int) then textdiff_Hull.l0 k a b ((n + 1 : Nat) : Int) else textdiff_Hull.j1 k a b n := by
  have w1 : Aside0 (wrap64 ((n : Int) + 1) = ((n + 1 : Nat) : Int)) := Aside0.mk (w64 (by omega) (by omega))
  rw [textdiff_Hull.l0]
  simp only [w1.out]
  clear w1
  rw [if_pos (by omega), if_pos (by omega), if_pos (by omega)]
theorem l0_stop {a b : ByteArray} (k n : Nat) (h3 : n = a.size ∨ n = b.size) : textdiff_Hull.l0 (k + 1) a b n = textdiff_Hull.j1 k a b n := by
  rw [textdiff_Hull.l0]
  by_cases c1 : (n : Int) < (a.size : Int)
  · rw [if_pos c1, if_neg (by omega)]
  · rw [if_neg c1]
theorem j1_spec {a b : ByteArray} (ha : a.size ≤ 1000) (hb : b.size ≤ 1000) (n : Nat) (h1 : n ≤ a.size) (h2 : n ≤ b.size) (hp : Pre a b n) (pm : n < a.size → n < b.size → ¬ bt a (n : Int) = bt b (n : Int)) :
    ∃ s', Is a b n s' ∧ ∀ k, a.size + 2 ≤ k → textdiff_Hull.j1 k a b n = some ((n : Int), ((a.size - n - s' : Nat) : Int), b.extract n (b.size - s')) := by
  obtain ⟨s', hI, hf⟩ := l1_spec ha hb n hp pm a.size 0 (by omega) (by omega) (by omega) (fun i hi => by omega)
  refine ⟨s', hI, fun k hk => ?_⟩
  obtain ⟨k, rfl⟩ : ∃ j, k = j + 1 := ⟨k - 1, by omega⟩
  rw [textdiff_Hull.j1]
  exact hf k (by omega)
theorem l0_spec {a b : ByteArray} (ha : a.size ≤ 1000) (hb : b.size ≤ 1000) : ∀ d n : Nat, a.size ≤ n + d → n ≤ a.size → n ≤ b.size → Pre a b n →
    ∃ n' s', Is a b n' s' ∧ ∀ k, a.size + 3 + d ≤ k → textdiff_Hull.l0 k a b n = some ((n' : Int), ((a.size - n' - s' : Nat) : Int), b.extract n' (b.size - s'))
  | 0, n, hd, h1, h2, hp => by
    obtain ⟨s', hI, hf⟩ := j1_spec ha hb n h1 h2 hp (fun _ _ => by omega)
    refine ⟨n, s', hI, fun k hk => ?_⟩
    obtain ⟨k, rfl⟩ : ∃ j, k = j + 1 := ⟨k - 1, by omega⟩
    rw [l0_stop k n (.inl (by omega))]
    exact hf k (by omega)
  | d + 1, n, hd, h1, h2, hp => by
    by_cases c : n < a.size ∧ n < b.size
    · by_cases e : bt a (n : Int) = bt b (n : Int)
      · obtain ⟨n', s', hI, hf⟩ := l0_spec ha hb d (n + 1) (by omega) (by omega) (by omega) (hp.succ e)
        refine ⟨n', s', hI, fun k hk => ?_⟩
        obtain ⟨k, rfl⟩ : ∃ j, k = j + 1 := ⟨k - 1, by omega⟩
        rw [l0_step ha hb k n c.1 c.2, if_pos e]
        exact hf k (by omega)
      · obtain ⟨s', hI, hf⟩ := j1_spec ha hb n h1 h2 hp (fun _ _ => e)
        refine ⟨n, s', hI, fun k hk => ?_⟩
        obtain ⟨k, rfl⟩ : ∃ j, k = j + 1 := ⟨k - 1, by omega⟩
        rw [l0_step ha hb k n c.1 c.2, if_neg e]
        exact hf k (by omega)
    · obtain ⟨s', hI, hf⟩ := j1_spec ha hb n h1 h2 hp (fun x y => absurd ⟨x, y⟩ c)
      refine ⟨n, s', hI, fun k hk => ?_⟩
      obtain ⟨k, rfl⟩ : ∃ j, k = j + 1 := ⟨k - 1, by omega⟩
      rw [l0_stop k n (by omega)]
      exact hf k (by omega)
/-- THE HULL -/
theorem hull_spec {a b : ByteArray} (ha : a.size ≤ 1000) (hb : b.size ≤ 1000) : ∃ n s, Is a b n s ∧ ∀ k, 2003 ≤ k → textdiff_Hull.f k a b = some ((n : Int), ((a.size - n - s : Nat) : Int), b.extract n (b.size - s)) := by
  obtain ⟨n, s, hI, hf⟩ := l0_spec ha hb a.size 0 (by omega) (Nat.zero_le _) (Nat.zero_le _) (fun i hi => by omega)
  exact ⟨n, s, hI, fun k hk => hf k (by omega)⟩

/-! the parts as lists -/
theorem Pre.take {a b : ByteArray} {n : Nat} (h : Pre a b n) (ha : n ≤ a.size) (hb : n ≤ b.size) : (B a).take n = (B b).take n := by
  apply List.ext_getElem
  · rw [List.length_take, List.length_take, B_len, B_len]; omega
  · intro i h1 h2
    rw [List.length_take, B_len] at h1
    rw [List.getElem_take, List.getElem_take]
    exact (bt_eq (by omega) (by omega)).1 (h i (by omega))
theorem Suf.drop {a b : ByteArray} {s : Nat} (h : Suf a b s) (ha : s ≤ a.size) (hb : s ≤ b.size) : (B a).drop (a.size - s) = (B b).drop (b.size - s) := by
  apply List.ext_getElem
  · rw [List.length_drop, List.length_drop, B_len, B_len]; omega
  · intro i h1 h2
    rw [List.length_drop, B_len] at h1
    rw [List.getElem_drop, List.getElem_drop]
    have e := h (s - 1 - i) (by omega)
    have e1 : a.size - 1 - (s - 1 - i) = a.size - s + i := by omega
    have e2 : b.size - 1 - (s - 1 - i) = b.size - s + i := by omega
    rw [e1, e2] at e
    exact (bt_eq (by omega) (by omega)).1 e
theorem B_extract (a : ByteArray) (p q : Nat) : B (a.extract p q) = ((B a).take q).drop p := by
  unfold B
  rw [ByteArray.data_extract, Array.toList_extract, List.extract_eq_take_drop, List.drop_take]
theorem B_append (a b : ByteArray) : B (a ++ b) = B a ++ B b := by unfold B; rw [ByteArray.data_append, Array.toList_append]
theorem B_inj {a b : ByteArray} (h : B a = B b) : a = b := by
  cases a; cases b
  unfold B at h
  simp only [Array.toList_inj] at h ⊢
  rw [h]
theorem bt_extract {a : ByteArray} {p q i : Nat} (hq : q ≤ a.size) (hi : p + i < q) : bt (a.extract p q) (i : Int) = bt a ((p + i : Nat) : Int) := by
  have hs : i < (a.extract p q).size := by rw [ByteArray.size_extract]; omega
  rw [bt_B hs, bt_B (show p + i < a.size by omega)]
  congr 2
  have : B (a.extract p q) = ((B a).take q).drop p := B_extract a p q
  have e : (B (a.extract p q))[i]'hs = (((B a).take q).drop p)[i]'(by rw [List.length_drop, List.length_take, B_len]; omega) := by simp only [this]
  rw [e, List.getElem_drop, List.getElem_take]; rfl
/-- the hull transforms a into b -/
theorem Is.joins {a b : ByteArray} {n s : Nat} (h : Is a b n s) : B b = (B a).take n ++ ((B b).take (b.size - s)).drop n ++ (B a).drop (a.size - s) := by
  have l1 := h.la
  have l2 := h.lb
  rw [h.pre.take (by omega) (by omega), h.suf.drop (by omega) (by omega)]
  have e : (B b).take n = ((B b).take (b.size - s)).take n := by rw [List.take_take, Nat.min_eq_left (by omega)]
  rw [e, List.take_append_drop, List.take_append_drop]
end Go.Proofs.Ythhgfagnallcnaa.Hul
