/- A part of a law as a program wrote it (wip/myprint.py, over the print of the kit): a function, what its call does, or the row of a law; Lean checks it. -/
import Derived.Test.YtfiefplalpjlpaaPAx0
import Derived.Test.YtfiefplalpjlpaaPAx15
import Derived.Test.YtfiefplalpjlpaaPAx16
namespace Go.Proofs.Ytfiefplalpjlpaa.PA
open Go.RowKit Go.Proofs.YtfiefplalpjlpaaW.PrintWords Go.Proofs.YtfiefplalpjlpaaW.PrintLast Go.Proofs.YtfiefplalpjlpaaW.PrintMore
attribute [local go_sem] max2_int min2_int max_two min_two max_three min_three max_four min_four   -- for this text's walks alone
set_option linter.unusedVariables false
set_option linter.unusedSimpArgs false

/-! ### emendateref51_Append: function 15 -/
def emendateref51_Append.f (k : Nat) (a0 : ByteArray) (a1 : ByteArray) : Option (ByteArray) := (emendateref51_Little.f (a1.size : Int)).bind fun t131 => (if a0.size + t131.size ≤ 9223372036854775807 then (if t131.size + a1.size ≤ 9223372036854775807 then ((emendateref51_Hash.f k (t131 ++ a1)).bind fun t132 => ((emendateref51_Little.f t132).bind fun t133 => (if (a0 ++ t131).size + t133.size ≤ 9223372036854775807 then (if ((a0 ++ t131) ++ t133).size + a1.size ≤ 9223372036854775807 then (some (((a0 ++ t131) ++ t133) ++ a1)) else (none)) else (none)))) else (none)) else (none))
theorem emendateref51_Append.mono : ∀ a0 a1 k, LeO (emendateref51_Append.f k a0 a1) (emendateref51_Append.f (k + 1) a0 a1) := by
  intro a0 a1 k
  unfold emendateref51_Append.f
  repeat' first
      | (with_reducible exact emendateref51_Hash.mono _ _)
      | (with_reducible exact LeO.refl _)
      | (with_reducible exact LeO.none _)
      | (with_reducible refine LeO.ite ?_ ?_)
      | (with_reducible refine LeO.bind ?_ (fun _ => ?_))
      | exact emendateref51_Hash.mono _ _
      | exact LeO.none _
      | refine LeO.ite ?_ ?_
      | refine LeO.bind ?_ (fun _ => ?_)
set_option maxHeartbeats 8000000 in
set_option maxRecDepth 100000 in
theorem emendateref51_Append.calls (k : Nat) (a0 : ByteArray) (a1 : ByteArray) (r : ByteArray) (w : World) (h : emendateref51_Append.f k a0 a1 = some r) :
    Calls Try.prog 15 #[.string a0, .string a1] w fun e w' => e = .returned (.string r) ∧ Below w.heap.size w w' := by
  have HB := Aside0.mk (Below.refl w.heap.size w)
  have H : ((emendateref51_Little.f (a1.size : Int)).bind fun t131 => (if a0.size + t131.size ≤ 9223372036854775807 then (if t131.size + a1.size ≤ 9223372036854775807 then ((emendateref51_Hash.f k (t131 ++ a1)).bind fun t132 => ((emendateref51_Little.f t132).bind fun t133 => (if (a0 ++ t131).size + t133.size ≤ 9223372036854775807 then (if ((a0 ++ t131) ++ t133).size + a1.size ≤ 9223372036854775807 then (some (((a0 ++ t131) ++ t133) ++ a1)) else (none)) else (none)))) else (none)) else (none))) = some r := h
  clear h
  replace H := Option.bind_eq_some_iff.mp H
  obtain ⟨t131, A30, H⟩ := H
  replace H : (if a0.size + t131.size ≤ 9223372036854775807 then (if t131.size + a1.size ≤ 9223372036854775807 then ((emendateref51_Hash.f k (t131 ++ a1)).bind fun t132 => ((emendateref51_Little.f t132).bind fun t133 => (if (a0 ++ t131).size + t133.size ≤ 9223372036854775807 then (if ((a0 ++ t131) ++ t133).size + a1.size ≤ 9223372036854775807 then (some (((a0 ++ t131) ++ t133) ++ a1)) else (none)) else (none)))) else (none)) else (none)) = some r := H
  have A3 := Aside0.mk A30
  clear A30
  by_cases c4 : a0.size + t131.size ≤ 9223372036854775807
  · rw [if_pos c4] at H
    have c4b0 := eq_true c4
    try (have c4n := c4; simp only [ByteArray.size_append, ByteArray.size_extract, Nat.min_self] at c4n; (repeat (rw [Nat.min_eq_left] at c4n; rotate_left; (refine Int.toNat_le.2 ?_; exact of_decide_eq_true (by first | (with_reducible assumption) | assumption)))); (try simp only [Nat.sub_zero] at c4n); (first | have c4nf := eq_false (Nat.not_lt.2 c4n) | have c4nf := eq_false (Int.not_lt.2 c4n) | skip); replace c4n := eq_true c4n)
    have c4b1 : decide (a0.size + t131.size ≤ 9223372036854775807) = true := decide_eq_true c4
    try have c4b2 : (9223372036854775807 < a0.size + t131.size) = False := eq_false (Nat.not_lt.2 c4)
    by_cases c5 : t131.size + a1.size ≤ 9223372036854775807
    · rw [if_pos c5] at H
      have c5b0 := eq_true c5
      try (have c5n := c5; simp only [ByteArray.size_append, ByteArray.size_extract, Nat.min_self] at c5n; (repeat (rw [Nat.min_eq_left] at c5n; rotate_left; (refine Int.toNat_le.2 ?_; exact of_decide_eq_true (by first | (with_reducible assumption) | assumption)))); (try simp only [Nat.sub_zero] at c5n); (first | have c5nf := eq_false (Nat.not_lt.2 c5n) | have c5nf := eq_false (Int.not_lt.2 c5n) | skip); replace c5n := eq_true c5n)
      have c5b1 : decide (t131.size + a1.size ≤ 9223372036854775807) = true := decide_eq_true c5
      try have c5b2 : (9223372036854775807 < t131.size + a1.size) = False := eq_false (Nat.not_lt.2 c5)
      replace H := Option.bind_eq_some_iff.mp H
      obtain ⟨t132, A60, H⟩ := H
      replace H : ((emendateref51_Little.f t132).bind fun t133 => (if (a0 ++ t131).size + t133.size ≤ 9223372036854775807 then (if ((a0 ++ t131) ++ t133).size + a1.size ≤ 9223372036854775807 then (some (((a0 ++ t131) ++ t133) ++ a1)) else (none)) else (none))) = some r := H
      have A6 := Aside0.mk A60
      clear A60
      replace H := Option.bind_eq_some_iff.mp H
      obtain ⟨t133, A70, H⟩ := H
      replace H : (if (a0 ++ t131).size + t133.size ≤ 9223372036854775807 then (if ((a0 ++ t131) ++ t133).size + a1.size ≤ 9223372036854775807 then (some (((a0 ++ t131) ++ t133) ++ a1)) else (none)) else (none)) = some r := H
      have A7 := Aside0.mk A70
      clear A70
      by_cases c8 : (a0 ++ t131).size + t133.size ≤ 9223372036854775807
      · rw [if_pos c8] at H
        have c8b0 := eq_true c8
        try (have c8n := c8; simp only [ByteArray.size_append, ByteArray.size_extract, Nat.min_self] at c8n; (repeat (rw [Nat.min_eq_left] at c8n; rotate_left; (refine Int.toNat_le.2 ?_; exact of_decide_eq_true (by first | (with_reducible assumption) | assumption)))); (try simp only [Nat.sub_zero] at c8n); (first | have c8nf := eq_false (Nat.not_lt.2 c8n) | have c8nf := eq_false (Int.not_lt.2 c8n) | skip); replace c8n := eq_true c8n)
        have c8b1 : decide ((a0 ++ t131).size + t133.size ≤ 9223372036854775807) = true := decide_eq_true c8
        try (have c8b1z := c8b1; simp only [ByteArray.size_append, ByteArray.size_extract, Nat.min_self] at c8b1z; (repeat (rw [Nat.min_eq_left] at c8b1z; rotate_left; (refine Int.toNat_le.2 ?_; exact of_decide_eq_true (by first | (with_reducible assumption) | assumption)))); (try simp only [Nat.sub_zero] at c8b1z))
        try have c8b2 : (9223372036854775807 < (a0 ++ t131).size + t133.size) = False := eq_false (Nat.not_lt.2 c8)
        by_cases c9 : ((a0 ++ t131) ++ t133).size + a1.size ≤ 9223372036854775807
        · rw [if_pos c9] at H
          have c9b0 := eq_true c9
          try (have c9n := c9; simp only [ByteArray.size_append, ByteArray.size_extract, Nat.min_self] at c9n; (repeat (rw [Nat.min_eq_left] at c9n; rotate_left; (refine Int.toNat_le.2 ?_; exact of_decide_eq_true (by first | (with_reducible assumption) | assumption)))); (try simp only [Nat.sub_zero] at c9n); (first | have c9nf := eq_false (Nat.not_lt.2 c9n) | have c9nf := eq_false (Int.not_lt.2 c9n) | skip); replace c9n := eq_true c9n)
          have c9b1 : decide (((a0 ++ t131) ++ t133).size + a1.size ≤ 9223372036854775807) = true := decide_eq_true c9
          try (have c9b1z := c9b1; simp only [ByteArray.size_append, ByteArray.size_extract, Nat.min_self] at c9b1z; (repeat (rw [Nat.min_eq_left] at c9b1z; rotate_left; (refine Int.toNat_le.2 ?_; exact of_decide_eq_true (by first | (with_reducible assumption) | assumption)))); (try simp only [Nat.sub_zero] at c9b1z))
          try have c9b2 : (9223372036854775807 < ((a0 ++ t131) ++ t133).size + a1.size) = False := eq_false (Nat.not_lt.2 c9)
          obtain rfl := Option.some.inj H
          go_enter Try.func15, Try.ntmps15
          go_wp2_with (first | ((with_reducible refine gate_callee (f := 23) rfl ?_); refine goesL_ (some 8) rfl rfl Try.func23 (by kernel_rfl) rfl #[.int .i64 (a1.size : Int)] rfl (by (try simp only [List.map_toArray, List.map_cons, List.map_nil]); first | done | rfl | (simp only [List.length_drop, List.length_take]; rfl)) ?_; (with_reducible refine (emendateref51_Little.calls (a1.size : Int) t131 _ A3.out).mono ?_); rintro e w10 ⟨rfl, hb⟩; refine ⟨_, rfl, ?_⟩; have n0_ := Aside0.mk (below_step (by repeat (first | (with_reducible first | exact HB.out | apply below_alloc | apply pw_below_drewN | apply below_drew1) | exact HB.out)) hb); clear HB; have HB := n0_; clear n0_; (try clear hb); (try clear hb2); (try clear hk); (try clear hi)) | ((with_reducible refine gate_callee (f := 24) rfl ?_); refine goesL_ (some 15) rfl rfl Try.func24 (by kernel_rfl) rfl #[.string (t131 ++ a1)] rfl (by (try simp only [List.map_toArray, List.map_cons, List.map_nil]); first | done | rfl | (simp only [List.length_drop, List.length_take]; rfl)) ?_; (with_reducible refine (emendateref51_Hash.calls k (t131 ++ a1) t132 _ A6.out).mono ?_); rintro e w' ⟨rfl, ⟨nd, rfl⟩⟩; refine ⟨_, rfl, ?_⟩) | ((with_reducible refine gate_callee (f := 23) rfl ?_); refine goesL_ (some 16) rfl rfl Try.func23 (by kernel_rfl) rfl #[.int .i64 t132] rfl (by (try simp only [List.map_toArray, List.map_cons, List.map_nil]); first | done | rfl | (simp only [List.length_drop, List.length_take]; rfl)) ?_; (with_reducible refine (emendateref51_Little.calls t132 t133 _ A7.out).mono ?_); rintro e w11 ⟨rfl, hb⟩; refine ⟨_, rfl, ?_⟩; have n0_ := Aside0.mk (below_step (by repeat (first | (with_reducible first | exact HB.out | apply below_alloc | apply pw_below_drewN | apply below_drew1) | exact HB.out)) hb); clear HB; have HB := n0_; clear n0_; (try clear hb); (try clear hb2); (try clear hk); (try clear hi)))
          go_ret
          exact ⟨by first | rfl | (simp [errW_none, errW_some] <;> rfl) | (simp [*, errW_none, errW_some] <;> rfl), by repeat (first | (with_reducible first | exact HB.out | apply below_alloc | apply pw_below_drewN | apply below_drew1) | exact HB.out)⟩
        · rw [if_neg c9] at H
          exact absurd H (by simp)
      · rw [if_neg c8] at H
        exact absurd H (by simp)
    · rw [if_neg c5] at H
      exact absurd H (by simp)
  · rw [if_neg c4] at H
    exact absurd H (by simp)

end Go.Proofs.Ytfiefplalpjlpaa.PA
