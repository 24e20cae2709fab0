/- A part of a law as a program wrote it (wip/myprint.py, over the print of the kit): a function, what its call does, or the row of a law; Lean checks it. -/
import Derived.Test.YtfiefplalpjlpaaPAx0
import Derived.Test.YtfiefplalpjlpaaPAx2
import Derived.Test.YtfiefplalpjlpaaPAx4
namespace Go.Proofs.Ytfiefplalpjlpaa.PA
open Go.RowKit Go.Proofs.YtfiefplalpjlpaaW.PrintWords Go.Proofs.YtfiefplalpjlpaaW.PrintLast Go.Proofs.YtfiefplalpjlpaaW.PrintMore
attribute [local go_sem] max2_int min2_int max_two min_two max_three min_three max_four min_four   -- for this text's walks alone
set_option linter.unusedVariables false
set_option linter.unusedSimpArgs false

/-! ### wal_Append: function 14 -/
def wal_Append.f (a0 : ByteArray) (a1 : ByteArray) : Option (ByteArray) := (wal_length.f a1).bind fun t109 => (if a0.size + t109.size ≤ 9223372036854775807 then ((wal_checksum.f a1).bind fun t110 => (if (a0 ++ t109).size + t110.size ≤ 9223372036854775807 then (if ((a0 ++ t109) ++ t110).size + a1.size ≤ 9223372036854775807 then (some (((a0 ++ t109) ++ t110) ++ a1)) else (none)) else (none))) else (none))
set_option maxHeartbeats 8000000 in
set_option maxRecDepth 100000 in
theorem wal_Append.calls (a0 : ByteArray) (a1 : ByteArray) (r : ByteArray) (w : World) (h : wal_Append.f a0 a1 = some r) :
    Calls Try.prog 14 #[.string a0, .string a1] w fun e w' => e = .returned (.string r) ∧ Below w.heap.size w w' := by
  have HB := Aside0.mk (Below.refl w.heap.size w)
  have H : ((wal_length.f a1).bind fun t109 => (if a0.size + t109.size ≤ 9223372036854775807 then ((wal_checksum.f a1).bind fun t110 => (if (a0 ++ t109).size + t110.size ≤ 9223372036854775807 then (if ((a0 ++ t109) ++ t110).size + a1.size ≤ 9223372036854775807 then (some (((a0 ++ t109) ++ t110) ++ a1)) else (none)) else (none))) else (none))) = some r := h
  clear h
  replace H := Option.bind_eq_some_iff.mp H
  obtain ⟨t109, A30, H⟩ := H
  replace H : (if a0.size + t109.size ≤ 9223372036854775807 then ((wal_checksum.f a1).bind fun t110 => (if (a0 ++ t109).size + t110.size ≤ 9223372036854775807 then (if ((a0 ++ t109) ++ t110).size + a1.size ≤ 9223372036854775807 then (some (((a0 ++ t109) ++ t110) ++ a1)) else (none)) else (none))) else (none)) = some r := H
  have A3 := Aside0.mk A30
  clear A30
  by_cases c4 : a0.size + t109.size ≤ 9223372036854775807
  · rw [if_pos c4] at H
    have c4b0 := eq_true c4
    try (have c4n := c4; simp only [ByteArray.size_append, ByteArray.size_extract, Nat.min_self] at c4n; (repeat (rw [Nat.min_eq_left] at c4n; rotate_left; (refine Int.toNat_le.2 ?_; exact of_decide_eq_true (by first | (with_reducible assumption) | assumption)))); (try simp only [Nat.sub_zero] at c4n); (first | have c4nf := eq_false (Nat.not_lt.2 c4n) | have c4nf := eq_false (Int.not_lt.2 c4n) | skip); replace c4n := eq_true c4n)
    have c4b1 : decide (a0.size + t109.size ≤ 9223372036854775807) = true := decide_eq_true c4
    try have c4b2 : (9223372036854775807 < a0.size + t109.size) = False := eq_false (Nat.not_lt.2 c4)
    replace H := Option.bind_eq_some_iff.mp H
    obtain ⟨t110, A50, H⟩ := H
    replace H : (if (a0 ++ t109).size + t110.size ≤ 9223372036854775807 then (if ((a0 ++ t109) ++ t110).size + a1.size ≤ 9223372036854775807 then (some (((a0 ++ t109) ++ t110) ++ a1)) else (none)) else (none)) = some r := H
    have A5 := Aside0.mk A50
    clear A50
    by_cases c6 : (a0 ++ t109).size + t110.size ≤ 9223372036854775807
    · rw [if_pos c6] at H
      have c6b0 := eq_true c6
      try (have c6n := c6; simp only [ByteArray.size_append, ByteArray.size_extract, Nat.min_self] at c6n; (repeat (rw [Nat.min_eq_left] at c6n; rotate_left; (refine Int.toNat_le.2 ?_; exact of_decide_eq_true (by first | (with_reducible assumption) | assumption)))); (try simp only [Nat.sub_zero] at c6n); (first | have c6nf := eq_false (Nat.not_lt.2 c6n) | have c6nf := eq_false (Int.not_lt.2 c6n) | skip); replace c6n := eq_true c6n)
      have c6b1 : decide ((a0 ++ t109).size + t110.size ≤ 9223372036854775807) = true := decide_eq_true c6
      try (have c6b1z := c6b1; simp only [ByteArray.size_append, ByteArray.size_extract, Nat.min_self] at c6b1z; (repeat (rw [Nat.min_eq_left] at c6b1z; rotate_left; (refine Int.toNat_le.2 ?_; exact of_decide_eq_true (by first | (with_reducible assumption) | assumption)))); (try simp only [Nat.sub_zero] at c6b1z))
      try have c6b2 : (9223372036854775807 < (a0 ++ t109).size + t110.size) = False := eq_false (Nat.not_lt.2 c6)
      by_cases c7 : ((a0 ++ t109) ++ t110).size + a1.size ≤ 9223372036854775807
      · rw [if_pos c7] at H
        have c7b0 := eq_true c7
        try (have c7n := c7; simp only [ByteArray.size_append, ByteArray.size_extract, Nat.min_self] at c7n; (repeat (rw [Nat.min_eq_left] at c7n; rotate_left; (refine Int.toNat_le.2 ?_; exact of_decide_eq_true (by first | (with_reducible assumption) | assumption)))); (try simp only [Nat.sub_zero] at c7n); (first | have c7nf := eq_false (Nat.not_lt.2 c7n) | have c7nf := eq_false (Int.not_lt.2 c7n) | skip); replace c7n := eq_true c7n)
        have c7b1 : decide (((a0 ++ t109) ++ t110).size + a1.size ≤ 9223372036854775807) = true := decide_eq_true c7
        try (have c7b1z := c7b1; simp only [ByteArray.size_append, ByteArray.size_extract, Nat.min_self] at c7b1z; (repeat (rw [Nat.min_eq_left] at c7b1z; rotate_left; (refine Int.toNat_le.2 ?_; exact of_decide_eq_true (by first | (with_reducible assumption) | assumption)))); (try simp only [Nat.sub_zero] at c7b1z))
        try have c7b2 : (9223372036854775807 < ((a0 ++ t109) ++ t110).size + a1.size) = False := eq_false (Nat.not_lt.2 c7)
        obtain rfl := Option.some.inj H
        go_enter Try.func14, Try.ntmps14
        go_wp2_with (first | ((with_reducible refine gate_callee (f := 21) rfl ?_); refine goesL_ (some 7) rfl rfl Try.func21 (by kernel_rfl) rfl #[.string a1] rfl (by (try simp only [List.map_toArray, List.map_cons, List.map_nil]); first | done | rfl | (simp only [List.length_drop, List.length_take]; rfl)) ?_; (with_reducible refine (wal_length.calls a1 t109 _ A3.out).mono ?_); rintro e w8 ⟨rfl, hb⟩; refine ⟨_, rfl, ?_⟩; have n0_ := Aside0.mk (below_step (by repeat (first | (with_reducible first | exact HB.out | apply below_alloc | apply pw_below_drewN | apply below_drew1) | exact HB.out)) hb); clear HB; have HB := n0_; clear n0_; (try clear hb); (try clear hb2); (try clear hk); (try clear hi)) | ((with_reducible refine gate_callee (f := 22) rfl ?_); refine goesL_ (some 10) rfl rfl Try.func22 (by kernel_rfl) rfl #[.string a1] rfl (by (try simp only [List.map_toArray, List.map_cons, List.map_nil]); first | done | rfl | (simp only [List.length_drop, List.length_take]; rfl)) ?_; (with_reducible refine (wal_checksum.calls a1 t110 _ A5.out).mono ?_); rintro e w9 ⟨rfl, hb⟩; refine ⟨_, rfl, ?_⟩; have n0_ := Aside0.mk (below_step (by repeat (first | (with_reducible first | exact HB.out | apply below_alloc | apply pw_below_drewN | apply below_drew1) | exact HB.out)) hb); clear HB; have HB := n0_; clear n0_; (try clear hb); (try clear hb2); (try clear hk); (try clear hi)))
        go_ret
        exact ⟨by first | rfl | (simp [errW_none, errW_some] <;> rfl) | (simp [*, errW_none, errW_some] <;> rfl), by repeat (first | (with_reducible first | exact HB.out | apply below_alloc | apply pw_below_drewN | apply below_drew1) | exact HB.out)⟩
      · rw [if_neg c7] at H
        exact absurd H (by simp)
    · rw [if_neg c6] at H
      exact absurd H (by simp)
  · rw [if_neg c4] at H
    exact absurd H (by simp)

end Go.Proofs.Ytfiefplalpjlpaa.PA
