/- The pure statement of TextdiffHullTransforms: for all strings of at most 80 bytes Hull transforms a into b, equals the reference, and its two parts neither begin nor end with the same byte. -/
import Derived.Test.YthhgfagnallcnaaSayTextdiffHullTransforms
import Derived.Test.YthhgfagnallcnaaAwa
import Derived.Test.YthhgfagnallcnaaHul
set_option linter.unusedVariables false
namespace Go.Proofs.Ythhgfagnallcnaa.textdiffHullTransforms
open Go.RowKit Go.Proofs.Ythhgfagnallcnaa.PA Go.Proofs.YthhgfagnallcnaaW.PrintWords Go.Proofs.YthhgfagnallcnaaW.PrintLast Go.Proofs.Ythhgfagnallcnaa.Eds Go.Proofs.Ythhgfagnallcnaa.Tbl Go.Proofs.Ythhgfagnallcnaa.Awa Go.Proofs.Ythhgfagnallcnaa.Hul

/-- the reference's hull is the same program text -/
theorem ref_eq (a b : ByteArray) : ∀ k : Nat, (∀ n, emendateref06_Hull.j1 k a b n = textdiff_Hull.j1 k a b n) ∧ (∀ n s, emendateref06_Hull.l1 k a b n s = textdiff_Hull.l1 k a b n s) ∧ (∀ n, emendateref06_Hull.l0 k a b n = textdiff_Hull.l0 k a b n)
  | 0 => ⟨fun n => by rw [emendateref06_Hull.j1, textdiff_Hull.j1], fun n s => by rw [emendateref06_Hull.l1, textdiff_Hull.l1], fun n => by rw [emendateref06_Hull.l0, textdiff_Hull.l0]⟩
  | k + 1 => by
    obtain ⟨h1, h2, h3⟩ := ref_eq a b k
    refine ⟨fun n => ?_, fun n s => ?_, fun n => ?_⟩
    · rw [emendateref06_Hull.j1, textdiff_Hull.j1, h2]
    · rw [emendateref06_Hull.l1, textdiff_Hull.l1]; simp only [h2]
    · rw [emendateref06_Hull.l0, textdiff_Hull.l0]; simp only [h1, h3]

theorem tog_one (a : ByteArray) (n d : Nat) (c : ByteArray) (h : n + d ≤ a.size) (ha : a.size ≤ 1000) (hc : c.size ≤ 1000) (k : Nat) :
    emendateref06_Together.f (k + 2) a [⟨(n : Int), (d : Int), c⟩] = some (((⟨#[]⟩ ++ a.extract 0 n) ++ c) ++ a.extract (n + d) a.size, true) := by
  unfold emendateref06_Together.f
  have w1 : Aside0 (wrap64 ((a.size : Int) - n) = ((a.size - n : Nat) : Int)) := Aside0.mk (w64 (by omega) (by omega))
  have w2 : Aside0 (wrap64 ((n : Int) + d) = ((n + d : Nat) : Int)) := Aside0.mk (w64 (by omega) (by omega))
  have w3 : Aside0 (wrap64 ((0 : Int) + 1) = 1) := Aside0.mk (w64 (n := 1) (by omega) (by omega))
  have r : rd_T30 [(⟨(n : Int), (d : Int), c⟩ : S30)] 0 = ⟨(n : Int), (d : Int), c⟩ := rfl
  have l : (([(⟨(n : Int), (d : Int), c⟩ : S30)].length : Nat) : Int) = 1 := rfl
  rw [emendateref06_Together.l0]
  simp only [r, l, w1.out, w2.out, w3.out]
  have e1 : ((n : Nat) : Int).toNat = n := rfl
  have e2 : ((0 : Int)).toNat = 0 := rfl
  have e3 : ((n + d : Nat) : Int).toNat = n + d := rfl
  simp only [e1, e2]
  have s0 : (⟨#[]⟩ : ByteArray).size = 0 := rfl
  have s1 : (a.extract 0 n).size = n := by rw [ByteArray.size_extract]; omega
  have s2 : (a.extract (n + d) a.size).size = a.size - (n + d) := by rw [ByteArray.size_extract]; omega
  have s3 : (⟨#[]⟩ ++ a.extract 0 n).size = n := by rw [ByteArray.size_append, s0, s1]; omega
  have s4 : ((⟨#[]⟩ ++ a.extract 0 n) ++ c).size = n + c.size := by rw [ByteArray.size_append, s3]
  clear w1 w2 w3
  rw [if_pos (by decide), if_pos (by decide), if_neg (by omega), if_neg (by omega), if_neg (by omega), if_neg (by omega), if_pos (by decide), if_pos (by omega), if_pos (by omega), if_pos (by omega), if_pos (by omega)]
  rw [emendateref06_Together.l0]
  simp only [l, e3]
  rw [if_neg (by decide), if_pos (by omega), if_pos (by omega), if_pos (by omega)]

theorem joined {a b : ByteArray} {n s : Nat} (h : Is a b n s) : ((⟨#[]⟩ ++ a.extract 0 n) ++ b.extract n (b.size - s)) ++ a.extract (n + (a.size - n - s)) a.size = b := by
  have l1 := h.la
  apply B_inj
  rw [B_append, B_append, B_append, B_extract, B_extract, B_extract, List.drop_zero]
  have e0 : B (⟨#[]⟩ : ByteArray) = [] := rfl
  have e1 : n + (a.size - n - s) = a.size - s := by omega
  rw [e0, e1, List.nil_append, List.take_of_length_le (l := B a) (i := a.size) (by rw [B_len]; omega)]
  exact h.joins.symm

theorem pure : Pure := by
  intro a b _ _
  refine ⟨3000, ?_⟩
  unfold emendatelaw06_TextdiffHullTransforms.f
  rw [awake_ex 3000 (by omega), Option.bind_some, if_pos rfl, few_ex, Option.bind_some]
  by_cases h1 : a.size ≤ 80 ∧ b.size ≤ 80
  · obtain ⟨n, s, hI, hf⟩ := hull_spec (a := a) (b := b) (by omega) (by omega)
    have l1 := hI.la
    have l2 := hI.lb
    have sc : (b.extract n (b.size - s)).size = b.size - s - n := by rw [ByteArray.size_extract]; omega
    have sd : (a.extract n (n + (a.size - n - s))).size = a.size - n - s := by rw [ByteArray.size_extract]; omega
    have hr : emendateref06_Hull.f 3000 a b = textdiff_Hull.f 3000 a b := (ref_eq a b 3000).2.2 0
    rw [decide_eq_true h1, if_pos rfl, hr, hf 3000 (by omega), Option.bind_some]
    simp only []
    rw [tog_one a n (a.size - n - s) _ (by omega) (by omega) (by omega) 2998, Option.bind_some, joined hI, if_pos rfl, if_pos rfl, Option.bind_some]
    simp only [beq_self_eq_true, Bool.not_true, Bool.or_false]
    rw [if_neg (by decide)]
    have w1 : Aside0 (wrap64 ((n : Int) + ((a.size - n - s : Nat) : Int)) = ((n + (a.size - n - s) : Nat) : Int)) := Aside0.mk (w64 (by omega) (by omega))
    have e1 : ((n : Nat) : Int).toNat = n := rfl
    have e2 : ((n + (a.size - n - s) : Nat) : Int).toNat = n + (a.size - n - s) := rfl
    simp only [w1.out, e1, e2, sc, sd]
    clear w1
    rw [if_pos (by omega), if_pos (by omega), if_pos (by omega)]
    by_cases c1 : a.size - n - s = 0
    · rw [if_pos (by omega)]
    · rw [if_neg (by omega)]
      by_cases c2 : b.size - s - n = 0
      · rw [if_pos (by omega)]
      · rw [if_neg (by omega), if_pos (by omega), if_pos (by omega)]
        have p1 : bt (a.extract n (n + (a.size - n - s))) 0 = bt a ((n : Nat) : Int) := by
          have := bt_extract (a := a) (p := n) (q := n + (a.size - n - s)) (i := 0) (by omega) (by omega)
          exact this
        have p2 : bt (b.extract n (b.size - s)) 0 = bt b ((n : Nat) : Int) := by
          have := bt_extract (a := b) (p := n) (q := b.size - s) (i := 0) (by omega) (by omega)
          exact this
        rw [p1, p2, if_neg (hI.pmax (by omega) (by omega))]
        have w2 : Aside0 (wrap64 (((a.size - n - s : Nat) : Int) - 1) = ((a.size - n - s - 1 : Nat) : Int)) := Aside0.mk (w64 (by omega) (by omega))
        have w3 : Aside0 (wrap64 (((b.size - s - n : Nat) : Int) - 1) = ((b.size - s - n - 1 : Nat) : Int)) := Aside0.mk (w64 (by omega) (by omega))
        simp only [w2.out, w3.out]
        clear w2 w3
        rw [if_pos (by omega), if_pos (by omega), if_pos (by omega), if_pos (by omega)]
        congr 1
        rw [bne_iff_ne]
        have p3 := bt_extract (a := a) (p := n) (q := n + (a.size - n - s)) (i := a.size - n - s - 1) (by omega) (by omega)
        have p4 := bt_extract (a := b) (p := n) (q := b.size - s) (i := b.size - s - n - 1) (by omega) (by omega)
        rw [p3, p4]
        have q1 : n + (a.size - n - s - 1) = a.size - 1 - s := by omega
        have q2 : n + (b.size - s - n - 1) = b.size - 1 - s := by omega
        rw [q1, q2]
        exact hI.smax (by omega) (by omega)
  · rw [decide_eq_false h1, if_neg (by decide)]

end Go.Proofs.Ythhgfagnallcnaa.textdiffHullTransforms
