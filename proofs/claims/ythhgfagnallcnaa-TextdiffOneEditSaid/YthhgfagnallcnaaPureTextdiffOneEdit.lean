/- The pure statement of TextdiffOneEdit: for strings of at most 80 bytes that differ by one edit, the hull deletes and inserts at most as many bytes, and the distance is at most what the edit deletes and inserts. -/
import Derived.Test.YthhgfagnallcnaaSayTextdiffOneEdit
import Derived.Test.YthhgfagnallcnaaAwa
import Derived.Test.YthhgfagnallcnaaHul
set_option linter.unusedVariables false
namespace Go.Proofs.Ythhgfagnallcnaa.textdiffOneEdit
open Go.RowKit Go.Proofs.Ythhgfagnallcnaa.PA Go.Proofs.YthhgfagnallcnaaW.PrintWords Go.Proofs.YthhgfagnallcnaaW.PrintLast Go.Proofs.Ythhgfagnallcnaa.Eds Go.Proofs.Ythhgfagnallcnaa.Tbl Go.Proofs.Ythhgfagnallcnaa.Awa Go.Proofs.Ythhgfagnallcnaa.Hul

theorem apply_in (a c : ByteArray) (p d : Nat) (h : p + d ≤ a.size) (ha : a.size ≤ 140737488351232) (hc : c.size ≤ 140737488351232) :
    emendateref03_Apply.f a p d c = some ((a.extract 0 p ++ c) ++ a.extract (p + d) a.size, 0) := by
  unfold emendateref03_Apply.f emendateref03_Fits.f
  have w1 : Aside0 (wrap64 ((a.size : Int) - p) = ((a.size - p : Nat) : Int)) := Aside0.mk (by unfold wrap64; omega)
  have w2 : Aside0 (wrap64 ((p : Int) + d) = ((p + d : Nat) : Int)) := Aside0.mk (by unfold wrap64; omega)
  simp only [w1.out, w2.out]
  clear w1 w2
  have s1 : (a.extract 0 p).size = p := by rw [ByteArray.size_extract]; omega
  have s2 : (a.extract (p + d) a.size).size = a.size - (p + d) := by rw [ByteArray.size_extract]; omega
  have s3 : (a.extract 0 p ++ c).size = p + c.size := by rw [ByteArray.size_append, s1]
  have e1 : ((p : Nat) : Int).toNat = p := rfl
  have e2 : ((p + d : Nat) : Int).toNat = p + d := rfl
  simp only [e1, e2]
  rw [if_pos (by omega), if_pos (by omega), if_pos (by omega), decide_eq_true (by omega), Option.bind_some, if_pos rfl, if_pos (by omega), if_pos (by omega), if_pos (by omega), if_pos (by omega), if_pos (by omega), if_pos (by omega)]
theorem apply_out (a c : ByteArray) (p d : Int) (h : ¬ (0 ≤ p ∧ p ≤ a.size ∧ 0 ≤ d ∧ d ≤ a.size - p)) (ha : a.size ≤ 140737488351232) :
    emendateref03_Apply.f a p d c = some (⟨#[]⟩, 2) := by
  have g : emendateref03_Fits.f a p d c = some false := by
    unfold emendateref03_Fits.f
    by_cases h1 : p ≥ 0
    · rw [if_pos h1]
      by_cases h2 : p ≤ (a.size : Int)
      · rw [if_pos h2]
        by_cases h3 : d ≥ 0
        · have w1 : wrap64 ((a.size : Int) - p) = (a.size : Int) - p := by unfold wrap64; omega
          rw [if_pos h3, w1, decide_eq_false (by omega)]
        · rw [if_neg h3]
      · rw [if_neg h2]
    · rw [if_neg h1]
  unfold emendateref03_Apply.f
  rw [g, Option.bind_some, if_neg (by decide)]

/-- the hull of two strings that differ by one edit -/
theorem hull_small {a b : ByteArray} {n s : Nat} (h : Is a b n s) (p d i : Nat) (hs : p + d ≤ a.size) (hb : b.size + d = a.size + i) (hp : Pre a b p) (hq : Suf a b (a.size - p - d)) : p + (a.size - p - d) ≤ n + s := by
  have l1 := h.la
  have l2 := h.lb
  by_cases c : n + s < a.size ∧ n + s < b.size
  · have hn : p ≤ n := by
      refine Nat.le_of_not_lt fun g => ?_
      exact h.pmax (by omega) (by omega) (hp n g)
    have hs2 : a.size - p - d ≤ s := by
      refine Nat.le_of_not_lt fun g => ?_
      exact h.smax c.1 c.2 (hq s g)
    omega
  · omega

theorem bt_app_l {x y : ByteArray} {i : Nat} (h : i < x.size) : bt (x ++ y) (i : Int) = bt x (i : Int) := by
  have hs : i < (x ++ y).size := by rw [ByteArray.size_append]; omega
  rw [bt_B hs, bt_B h]
  congr 2
  have e : (B (x ++ y))[i]'hs = (B x ++ B y)[i]'(by rw [List.length_append, B_len, B_len]; omega) := by simp only [B_append]
  rw [e, List.getElem_append_left (by rw [B_len]; exact h)]; rfl
theorem bt_app_r {x y : ByteArray} {i : Nat} (h : i < y.size) : bt (x ++ y) ((x.size + i : Nat) : Int) = bt y (i : Int) := by
  have hs : x.size + i < (x ++ y).size := by rw [ByteArray.size_append]; omega
  rw [bt_B hs, bt_B h]
  congr 2
  have e : (B (x ++ y))[x.size + i]'hs = (B x ++ B y)[x.size + i]'(by rw [List.length_append, B_len, B_len]; omega) := by simp only [B_append]
  rw [e, List.getElem_append_right (by rw [B_len]; omega)]
  simp only [B_len, Nat.add_sub_cancel_left]; rfl

theorem main (a b c : ByteArray) (p d : Nat) (h : p + d ≤ a.size) (hb : b = (a.extract 0 p ++ c) ++ a.extract (p + d) a.size) (sa : a.size ≤ 80) (sb : b.size ≤ 80) :
    emendatelaw06_TextdiffOneEdit.j0 3000 a b false p d c = some true := by
  have s1 : (a.extract 0 p).size = p := by rw [ByteArray.size_extract]; omega
  have s2 : (a.extract (p + d) a.size).size = a.size - (p + d) := by rw [ByteArray.size_extract]; omega
  have s3 : (a.extract 0 p ++ c).size = p + c.size := by rw [ByteArray.size_append, s1]
  have s4 : b.size = p + c.size + (a.size - (p + d)) := by rw [hb, ByteArray.size_append, s3, s2]
  have hp : Pre a b p := fun i hi => by
    rw [hb, bt_app_l (by omega), bt_app_l (by omega), bt_extract (by omega) (by omega), Nat.zero_add]
  have hq : Suf a b (a.size - p - d) := fun i hi => by
    have e : b.size - 1 - i = (a.extract 0 p ++ c).size + (a.size - (p + d) - 1 - i) := by omega
    rw [e, hb, bt_app_r (by omega), bt_extract (by omega) (by omega)]
    congr 2; omega
  obtain ⟨n, s, hI, hf⟩ := hull_spec (a := a) (b := b) (by omega) (by omega)
  have g := hull_small hI p d c.size h (by omega) hp hq
  have l1 := hI.la
  have l2 := hI.lb
  -- the distance, by the edit and by the hull
  have ea : B a = (B a).take p ++ ((B a).take (p + d)).drop p ++ (B a).drop (p + d) := by
    have e : (B a).take p = ((B a).take (p + d)).take p := by rw [List.take_take, Nat.min_eq_left (by omega)]
    rw [e, List.take_append_drop, List.take_append_drop]
  have eb : B b = (B a).take p ++ B c ++ (B a).drop (p + d) := by
    rw [hb, B_append, B_append, B_extract, B_extract, List.drop_zero, List.take_of_length_le (l := B a) (i := a.size) (by rw [B_len]; omega)]
  have d1 : D (B a) (B b) ≤ d + c.size := by
    have := D_edit ((B a).take p) ((B a).drop (p + d)) (((B a).take (p + d)).drop p) (B c)
    rw [← ea, ← eb, List.length_drop, List.length_take, B_len, B_len] at this
    omega
  have ja := hI.joins
  have ea2 : B a = (B a).take n ++ ((B a).take (a.size - s)).drop n ++ (B a).drop (a.size - s) := by
    have e : (B a).take n = ((B a).take (a.size - s)).take n := by rw [List.take_take, Nat.min_eq_left (by omega)]
    rw [e, List.take_append_drop, List.take_append_drop]
  have d2 : D (B a) (B b) ≤ (a.size - s - n) + (b.size - s - n) := by
    have := D_edit ((B a).take n) ((B a).drop (a.size - s)) (((B a).take (a.size - s)).drop n) (((B b).take (b.size - s)).drop n)
    rw [← ea2, ← ja, List.length_drop, List.length_take, List.length_drop, List.length_take, B_len, B_len] at this
    omega
  have s5 : (b.extract n (b.size - s)).size = b.size - s - n := by rw [ByteArray.size_extract]; omega
  rw [emendatelaw06_TextdiffOneEdit.j0, if_neg (by decide), hf _ (by omega), Option.bind_some, dist_f (by omega) (by omega), Option.bind_some]
  simp only [s5]
  have w1 : Aside0 (wrap64 ((d : Int) + (c.size : Int)) = ((d + c.size : Nat) : Int)) := Aside0.mk (w64 (by omega) (by omega))
  have w2 : Aside0 (wrap64 (((a.size - n - s : Nat) : Int) + ((b.size - s - n : Nat) : Int)) = ((a.size - n - s + (b.size - s - n) : Nat) : Int)) := Aside0.mk (w64 (by omega) (by omega))
  have w3 : Aside0 (wrap64 (((a.size - n - s : Nat) : Int) - ((b.size - s - n : Nat) : Int)) = (d : Int) - (c.size : Int)) := Aside0.mk (by unfold wrap64; omega)
  have w4 : Aside0 (wrap64 ((d : Int) - (c.size : Int)) = (d : Int) - (c.size : Int)) := Aside0.mk (by unfold wrap64; omega)
  simp only [w1.out, w2.out, w3.out, w4.out]
  clear w1 w2 w3 w4
  rw [if_pos (by omega), Option.bind_some, if_pos (by omega), if_pos trivial, if_pos (by omega), decide_eq_true (by omega)]

theorem pure : Pure := by
  intro a p d c ha ⟨hp, hd, hc⟩
  refine ⟨3001, ?_⟩
  unfold emendatelaw06_TextdiffOneEdit.f
  rw [awake_ex 3001 (by omega), Option.bind_some, if_pos rfl]
  by_cases h : 0 ≤ p ∧ p ≤ a.size ∧ 0 ≤ d ∧ d ≤ a.size - p
  · obtain ⟨p, rfl⟩ : ∃ q : Nat, p = q := ⟨p.toNat, by omega⟩
    obtain ⟨d, rfl⟩ : ∃ q : Nat, d = q := ⟨d.toNat, by omega⟩
    rw [apply_in a c p d (by omega) ha hc, Option.bind_some, if_pos rfl, few_ex, Option.bind_some]
    by_cases h1 : a.size ≤ 80 ∧ ((a.extract 0 p ++ c) ++ a.extract (p + d) a.size).size ≤ 80
    · rw [decide_eq_true h1]
      have := main a _ c p d (by omega) rfl h1.1 h1.2
      exact emendatelaw06_TextdiffOneEdit.mono_l _ _ _ _ _ _ _ _ this
    · rw [decide_eq_false h1, emendatelaw06_TextdiffOneEdit.j0, if_pos (by decide)]
  · rw [apply_out a c p d h ha, Option.bind_some, if_neg (by decide), emendatelaw06_TextdiffOneEdit.j0, if_pos rfl]

end Go.Proofs.Ythhgfagnallcnaa.textdiffOneEdit
