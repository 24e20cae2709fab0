/- A part of a law as a program wrote it (wip/myprint.py, over the print of the kit): a function, what its call does, or the row of a law; Lean checks it. -/
import Derived.Test.YthhgfagnallcnaaPAx0
import Derived.Test.YthhgfagnallcnaaPAx5
import Derived.Test.YthhgfagnallcnaaPAx9
import Derived.Test.YthhgfagnallcnaaPAx10
namespace Go.Proofs.Ythhgfagnallcnaa.PA
open Go.RowKit Go.Proofs.YthhgfagnallcnaaW.PrintWords Go.Proofs.YthhgfagnallcnaaW.PrintLast Go.Proofs.YthhgfagnallcnaaW.PrintMore
attribute [local go_sem] max2_int min2_int max_two min_two max_three min_three max_four min_four   -- for this text's walks alone
set_option linter.unusedVariables false
set_option linter.unusedSimpArgs false

/-! ### emendatelaw06_TextdiffCommonParts: function 5 -/
def emendatelaw06_TextdiffCommonParts.j0 : Nat → ByteArray → ByteArray → ByteArray → Bool → Option (Bool)
  | 0, _, _, _, _ => none
  | k + 1, x0, x1, x2, x18 => if x18 = true then (some true) else ((textdiff_Distance.f x0 x1).bind fun t143 => (if x2.size + x0.size ≤ 9223372036854775807 then (if x2.size + x1.size ≤ 9223372036854775807 then ((textdiff_Distance.f (x2 ++ x0) (x2 ++ x1)).bind fun t144 => (if t144 = t143 then (if x0.size + x2.size ≤ 9223372036854775807 then (if x1.size + x2.size ≤ 9223372036854775807 then ((textdiff_Distance.f (x0 ++ x2) (x1 ++ x2)).bind fun t145 => (some (t145 == t143))) else (none)) else (none)) else (some false))) else (none)) else (none)))
def emendatelaw06_TextdiffCommonParts.f (k : Nat) (a0 : ByteArray) (a1 : ByteArray) (a2 : ByteArray) : Option (Bool) := (emendatelaw06_awake.f k).bind fun t141 => (if t141 = true then ((emendatelaw06_few.f a0 a1).bind fun t142 => (if t142 = true then (emendatelaw06_TextdiffCommonParts.j0 k a0 a1 a2 (decide ((a2.size : Int) > 20))) else (emendatelaw06_TextdiffCommonParts.j0 k a0 a1 a2 true))) else (some false))
theorem emendatelaw06_TextdiffCommonParts.mono_l : ∀ k, (∀ y0 y1 y2 y3, LeO (emendatelaw06_TextdiffCommonParts.j0 k y0 y1 y2 y3) (emendatelaw06_TextdiffCommonParts.j0 (k + 1) y0 y1 y2 y3))
  | 0 => fun _ _ _ _ r h => by simp [emendatelaw06_TextdiffCommonParts.j0] at h
  | k + 1 => by
    have ih0 := emendatelaw06_TextdiffCommonParts.mono_l k
    · intro y0 y1 y2 y3
      unfold emendatelaw06_TextdiffCommonParts.j0
      repeat' first
      | (with_reducible exact ih0 _ _ _ _)
      | (with_reducible exact emendatelaw06_awake.mono _)
      | (with_reducible exact LeO.refl _)
      | (with_reducible exact LeO.none _)
      | (with_reducible refine LeO.ite ?_ ?_)
      | (with_reducible refine LeO.bind ?_ (fun _ => ?_))
      | exact ih0 _ _ _ _
      | exact emendatelaw06_awake.mono _
      | exact LeO.none _
      | refine LeO.ite ?_ ?_
      | refine LeO.bind ?_ (fun _ => ?_)
theorem emendatelaw06_TextdiffCommonParts.mono : ∀ a0 a1 a2 k, LeO (emendatelaw06_TextdiffCommonParts.f k a0 a1 a2) (emendatelaw06_TextdiffCommonParts.f (k + 1) a0 a1 a2) := by
  intro a0 a1 a2 k
  have ih0 := emendatelaw06_TextdiffCommonParts.mono_l k
  unfold emendatelaw06_TextdiffCommonParts.f
  repeat' first
      | (with_reducible exact ih0 _ _ _ _)
      | (with_reducible exact emendatelaw06_awake.mono _)
      | (with_reducible exact LeO.refl _)
      | (with_reducible exact LeO.none _)
      | (with_reducible refine LeO.ite ?_ ?_)
      | (with_reducible refine LeO.bind ?_ (fun _ => ?_))
      | exact ih0 _ _ _ _
      | exact emendatelaw06_awake.mono _
      | exact LeO.none _
      | refine LeO.ite ?_ ?_
      | refine LeO.bind ?_ (fun _ => ?_)
set_option maxHeartbeats 8000000 in
set_option maxRecDepth 100000 in
theorem emendatelaw06_TextdiffCommonParts.calls (k : Nat) (a0 : ByteArray) (a1 : ByteArray) (a2 : ByteArray) (r : Bool) (w : World) (h : emendatelaw06_TextdiffCommonParts.f k a0 a1 a2 = some r) :
    Calls Try.prog 5 #[.string a0, .string a1, .string a2] w fun e w' => e = .returned (.bool r) ∧ Below w.heap.size w w' := by
  have HB := Aside0.mk (Below.refl w.heap.size w)
  have H : ((emendatelaw06_awake.f k).bind fun t141 => (if t141 = true then ((emendatelaw06_few.f a0 a1).bind fun t142 => (if t142 = true then (emendatelaw06_TextdiffCommonParts.j0 k a0 a1 a2 (decide ((a2.size : Int) > 20))) else (emendatelaw06_TextdiffCommonParts.j0 k a0 a1 a2 true))) else (some false))) = some r := h
  clear h
  replace H := Option.bind_eq_some_iff.mp H
  obtain ⟨t141, A40, H⟩ := H
  replace H : (if t141 = true then ((emendatelaw06_few.f a0 a1).bind fun t142 => (if t142 = true then (emendatelaw06_TextdiffCommonParts.j0 k a0 a1 a2 (decide ((a2.size : Int) > 20))) else (emendatelaw06_TextdiffCommonParts.j0 k a0 a1 a2 true))) else (some false)) = some r := H
  have A4 := Aside0.mk A40
  clear A40
  by_cases c5 : t141 = true
  · subst c5
    have H1 : ((emendatelaw06_few.f a0 a1).bind fun t142 => (if t142 = true then (emendatelaw06_TextdiffCommonParts.j0 k a0 a1 a2 (decide ((a2.size : Int) > 20))) else (emendatelaw06_TextdiffCommonParts.j0 k a0 a1 a2 true))) = some r := by rw [if_pos rfl] at H; exact H
    clear H
    have H := H1
    clear H1
    have HC6 := Aside0.mk H
    clear H
    go_enter Try.func5, Try.ntmps5
    go_upto_region 3 with (first | ((with_reducible refine gate_callee (f := 10) rfl ?_); refine goesL_ (some 8) rfl rfl Try.func10 (by kernel_rfl) rfl #[] rfl (by (try simp only [List.map_toArray, List.map_cons, List.map_nil]); first | done | rfl | (simp only [List.length_drop, List.length_take]; rfl)) ?_; (with_reducible refine (emendatelaw06_awake.calls k  true _ A4.out).mono ?_); rintro e w7 ⟨rfl, hb⟩; refine ⟨_, rfl, ?_⟩; have n0_ := Aside0.mk (below_step (by repeat (first | (with_reducible first | exact HB.out | apply below_alloc | apply pw_below_drewN | apply below_drew1) | exact HB.out)) hb); clear HB; have HB := n0_; clear n0_; (try clear hb); (try clear hb2); (try clear hk); (try clear hi)))
    (try simp only [Act.put, List.setIfInBounds_toArray, List.set_cons_zero, List.set_cons_succ])
    go_cut [18] (fun v18 wc => ∃ (kq : Nat) (x18_5 : Bool), v18 = .bool x18_5 ∧ Aside0 (emendatelaw06_TextdiffCommonParts.j0 kq a0 a1 a2 x18_5 = some r) ∧ Aside0 (kq ≤ k) ∧ Aside0 (Below w.heap.size w wc))
    case first =>
      have H := HC6.out
      clear HC6
      replace H := Option.bind_eq_some_iff.mp H
      obtain ⟨t142, A80, H⟩ := H
      replace H : (if t142 = true then (emendatelaw06_TextdiffCommonParts.j0 k a0 a1 a2 (decide ((a2.size : Int) > 20))) else (emendatelaw06_TextdiffCommonParts.j0 k a0 a1 a2 true)) = some r := H
      have A8 := Aside0.mk A80
      clear A80
      by_cases c9 : t142 = true
      · subst c9
        have H1 : (emendatelaw06_TextdiffCommonParts.j0 k a0 a1 a2 (decide ((a2.size : Int) > 20))) = some r := by rw [if_pos rfl] at H; exact H
        clear H
        have H := H1
        clear H1
        have H' := Aside0.mk H
        clear H
        go_wp2_with (first | ((with_reducible refine gate_callee (f := 11) rfl ?_); refine goesL_ (some 12) rfl rfl Try.func11 (by kernel_rfl) rfl #[.string a0, .string a1] rfl (by (try simp only [List.map_toArray, List.map_cons, List.map_nil]); first | done | rfl | (simp only [List.length_drop, List.length_take]; rfl)) ?_; (with_reducible refine (emendatelaw06_few.calls a0 a1 true _ A8.out).mono ?_); rintro e w' ⟨rfl, ⟨nd, rfl⟩⟩; refine ⟨_, rfl, ?_⟩))
        go_meet
        case rel => exact ⟨_, (decide ((a2.size : Int) > 20)), (by first | rfl | (simp; done) | (simp [*]; done)), H', ⟨by first | omega | exact Nat.le_refl _⟩, ⟨by repeat (first | (with_reducible first | exact HB.out | apply below_alloc | apply pw_below_drewN | apply below_drew1) | exact HB.out)⟩⟩
      · replace c9 := Bool.eq_false_iff.mpr c9
        subst c9
        have H1 : (emendatelaw06_TextdiffCommonParts.j0 k a0 a1 a2 true) = some r := by rw [if_neg (show ¬ (false = true) by decide)] at H; exact H
        clear H
        have H := H1
        clear H1
        have H' := Aside0.mk H
        clear H
        go_wp2_with (first | ((with_reducible refine gate_callee (f := 11) rfl ?_); refine goesL_ (some 12) rfl rfl Try.func11 (by kernel_rfl) rfl #[.string a0, .string a1] rfl (by (try simp only [List.map_toArray, List.map_cons, List.map_nil]); first | done | rfl | (simp only [List.length_drop, List.length_take]; rfl)) ?_; (with_reducible refine (emendatelaw06_few.calls a0 a1 false _ A8.out).mono ?_); rintro e w' ⟨rfl, ⟨nd, rfl⟩⟩; refine ⟨_, rfl, ?_⟩))
        go_meet
        case rel => exact ⟨_, (true), (by first | rfl | (simp; done) | (simp [*]; done)), H', ⟨by first | omega | exact Nat.le_refl _⟩, ⟨by repeat (first | (with_reducible first | exact HB.out | apply below_alloc | apply pw_below_drewN | apply below_drew1) | exact HB.out)⟩⟩
    case rest =>
      clear HC6
      try clear c1
      try clear p2
      try clear c5
      try clear c9
      obtain ⟨kq, x18_5, rfl, HA, HJ5, HB⟩ := hcut
      cases kq with
      | zero => exact absurd HA.out (by simp [emendatelaw06_TextdiffCommonParts.j0])
      | succ kj5 =>
        have H := HA.out
        clear HA
        simp only [emendatelaw06_TextdiffCommonParts.j0] at H
        by_cases c10 : x18_5 = true
        · subst c10
          have H1 : (some true) = some r := by rw [if_pos rfl] at H; exact H
          clear H
          have H := H1
          clear H1
          obtain rfl := Option.some.inj H
          go_wp2
          go_ret
          exact ⟨by first | rfl | (simp [errW_none, errW_some] <;> rfl) | (simp [*, errW_none, errW_some] <;> rfl), by repeat (first | (with_reducible first | exact HB.out | apply below_alloc | apply pw_below_drewN | apply below_drew1) | exact HB.out)⟩
        · replace c10 := Bool.eq_false_iff.mpr c10
          subst c10
          have H1 : ((textdiff_Distance.f a0 a1).bind fun t143 => (if a2.size + a0.size ≤ 9223372036854775807 then (if a2.size + a1.size ≤ 9223372036854775807 then ((textdiff_Distance.f (a2 ++ a0) (a2 ++ a1)).bind fun t144 => (if t144 = t143 then (if a0.size + a2.size ≤ 9223372036854775807 then (if a1.size + a2.size ≤ 9223372036854775807 then ((textdiff_Distance.f (a0 ++ a2) (a1 ++ a2)).bind fun t145 => (some (t145 == t143))) else (none)) else (none)) else (some false))) else (none)) else (none))) = some r := by rw [if_neg (show ¬ (false = true) by decide)] at H; exact H
          clear H
          have H := H1
          clear H1
          replace H := Option.bind_eq_some_iff.mp H
          obtain ⟨t143, A110, H⟩ := H
          replace H : (if a2.size + a0.size ≤ 9223372036854775807 then (if a2.size + a1.size ≤ 9223372036854775807 then ((textdiff_Distance.f (a2 ++ a0) (a2 ++ a1)).bind fun t144 => (if t144 = t143 then (if a0.size + a2.size ≤ 9223372036854775807 then (if a1.size + a2.size ≤ 9223372036854775807 then ((textdiff_Distance.f (a0 ++ a2) (a1 ++ a2)).bind fun t145 => (some (t145 == t143))) else (none)) else (none)) else (some false))) else (none)) else (none)) = some r := H
          have A11 := Aside0.mk A110
          clear A110
          by_cases c12 : a2.size + a0.size ≤ 9223372036854775807
          · rw [if_pos c12] at H
            have c12b0 := eq_true c12
            try (have c12n := c12; simp only [ByteArray.size_append, ByteArray.size_extract, Nat.min_self, Nat.zero_add] at c12n; (repeat (rw [Nat.min_eq_left] at c12n; rotate_left; (refine Int.toNat_le.2 ?_; exact of_decide_eq_true (by first | (with_reducible assumption) | assumption)))); (try simp only [Nat.sub_zero] at c12n); (first | have c12nf := eq_false (Nat.not_lt.2 c12n) | have c12nf := eq_false (Int.not_lt.2 c12n) | skip); replace c12n := eq_true c12n)
            have c12b1 : decide (a2.size + a0.size ≤ 9223372036854775807) = true := decide_eq_true c12
            try have c12b2 : (9223372036854775807 < a2.size + a0.size) = False := eq_false (Nat.not_lt.2 c12)
            by_cases c13 : a2.size + a1.size ≤ 9223372036854775807
            · rw [if_pos c13] at H
              have c13b0 := eq_true c13
              try (have c13n := c13; simp only [ByteArray.size_append, ByteArray.size_extract, Nat.min_self, Nat.zero_add] at c13n; (repeat (rw [Nat.min_eq_left] at c13n; rotate_left; (refine Int.toNat_le.2 ?_; exact of_decide_eq_true (by first | (with_reducible assumption) | assumption)))); (try simp only [Nat.sub_zero] at c13n); (first | have c13nf := eq_false (Nat.not_lt.2 c13n) | have c13nf := eq_false (Int.not_lt.2 c13n) | skip); replace c13n := eq_true c13n)
              have c13b1 : decide (a2.size + a1.size ≤ 9223372036854775807) = true := decide_eq_true c13
              try have c13b2 : (9223372036854775807 < a2.size + a1.size) = False := eq_false (Nat.not_lt.2 c13)
              replace H := Option.bind_eq_some_iff.mp H
              obtain ⟨t144, A140, H⟩ := H
              replace H : (if t144 = t143 then (if a0.size + a2.size ≤ 9223372036854775807 then (if a1.size + a2.size ≤ 9223372036854775807 then ((textdiff_Distance.f (a0 ++ a2) (a1 ++ a2)).bind fun t145 => (some (t145 == t143))) else (none)) else (none)) else (some false)) = some r := H
              have A14 := Aside0.mk A140
              clear A140
              by_cases c15 : t144 = t143
              · rw [if_pos c15] at H
                have c15b0 : (t144 == t143) = true := beq_iff_eq.mpr c15
                have c15b1 : (t144 != t143) = false := bne_eq_false_iff_eq.mpr c15
                clear c15
                by_cases c16 : a0.size + a2.size ≤ 9223372036854775807
                · rw [if_pos c16] at H
                  have c16b0 := eq_true c16
                  try (have c16n := c16; simp only [ByteArray.size_append, ByteArray.size_extract, Nat.min_self, Nat.zero_add] at c16n; (repeat (rw [Nat.min_eq_left] at c16n; rotate_left; (refine Int.toNat_le.2 ?_; exact of_decide_eq_true (by first | (with_reducible assumption) | assumption)))); (try simp only [Nat.sub_zero] at c16n); (first | have c16nf := eq_false (Nat.not_lt.2 c16n) | have c16nf := eq_false (Int.not_lt.2 c16n) | skip); replace c16n := eq_true c16n)
                  have c16b1 : decide (a0.size + a2.size ≤ 9223372036854775807) = true := decide_eq_true c16
                  try have c16b2 : (9223372036854775807 < a0.size + a2.size) = False := eq_false (Nat.not_lt.2 c16)
                  by_cases c17 : a1.size + a2.size ≤ 9223372036854775807
                  · rw [if_pos c17] at H
                    have c17b0 := eq_true c17
                    try (have c17n := c17; simp only [ByteArray.size_append, ByteArray.size_extract, Nat.min_self, Nat.zero_add] at c17n; (repeat (rw [Nat.min_eq_left] at c17n; rotate_left; (refine Int.toNat_le.2 ?_; exact of_decide_eq_true (by first | (with_reducible assumption) | assumption)))); (try simp only [Nat.sub_zero] at c17n); (first | have c17nf := eq_false (Nat.not_lt.2 c17n) | have c17nf := eq_false (Int.not_lt.2 c17n) | skip); replace c17n := eq_true c17n)
                    have c17b1 : decide (a1.size + a2.size ≤ 9223372036854775807) = true := decide_eq_true c17
                    try have c17b2 : (9223372036854775807 < a1.size + a2.size) = False := eq_false (Nat.not_lt.2 c17)
                    replace H := Option.bind_eq_some_iff.mp H
                    obtain ⟨t145, A180, H⟩ := H
                    replace H : (some (t145 == t143)) = some r := H
                    have A18 := Aside0.mk A180
                    clear A180
                    obtain rfl := Option.some.inj H
                    go_wp2_with (first | ((with_reducible refine gate_callee (f := 12) rfl ?_); refine goesL_ (some 21) rfl rfl Try.func12 (by kernel_rfl) rfl #[.string a0, .string a1] rfl (by (try simp only [List.map_toArray, List.map_cons, List.map_nil]); first | done | rfl | (simp only [List.length_drop, List.length_take]; rfl)) ?_; (with_reducible refine (textdiff_Distance.calls a0 a1 t143 _ A11.out).mono ?_); rintro e w19 ⟨rfl, hb⟩; refine ⟨_, rfl, ?_⟩; have n0_ := Aside0.mk (below_step (by repeat (first | (with_reducible first | exact HB.out | apply below_alloc | apply pw_below_drewN | apply below_drew1) | exact HB.out)) hb); clear HB; have HB := n0_; clear n0_; (try clear hb); (try clear hb2); (try clear hk); (try clear hi)) | ((with_reducible refine gate_callee (f := 12) rfl ?_); refine goesL_ (some 28) rfl rfl Try.func12 (by kernel_rfl) rfl #[.string (a2 ++ a0), .string (a2 ++ a1)] rfl (by (try simp only [List.map_toArray, List.map_cons, List.map_nil]); first | done | rfl | (simp only [List.length_drop, List.length_take]; rfl)) ?_; (with_reducible refine (textdiff_Distance.calls (a2 ++ a0) (a2 ++ a1) t144 _ A14.out).mono ?_); rintro e w20 ⟨rfl, hb⟩; refine ⟨_, rfl, ?_⟩; have n0_ := Aside0.mk (below_step (by repeat (first | (with_reducible first | exact HB.out | apply below_alloc | apply pw_below_drewN | apply below_drew1) | exact HB.out)) hb); clear HB; have HB := n0_; clear n0_; (try clear hb); (try clear hb2); (try clear hk); (try clear hi)) | (go_at_call 12; (with_reducible refine (textdiff_Distance.calls (a0 ++ a2) (a1 ++ a2) t145 _ A18.out).mono ?_); rintro e w21 ⟨rfl, hb⟩; have n0_ := Aside0.mk (below_step (by repeat (first | (with_reducible first | exact HB.out | apply below_alloc | apply pw_below_drewN | apply below_drew1) | exact HB.out)) hb); clear HB; have HB := n0_; clear n0_; (try clear hb); (try clear hb2); (try clear hk); (try clear hi)))
                    go_ret
                    exact ⟨by first | rfl | (simp [errW_none, errW_some] <;> rfl) | (simp [*, errW_none, errW_some] <;> rfl), by repeat (first | (with_reducible first | exact HB.out | apply below_alloc | apply pw_below_drewN | apply below_drew1) | exact HB.out)⟩
                  · rw [if_neg c17] at H
                    exact absurd H (by simp)
                · rw [if_neg c16] at H
                  exact absurd H (by simp)
              · rw [if_neg c15] at H
                have c15b0 : (t144 == t143) = false := beq_eq_false_iff_ne.mpr c15
                have c15b1 : (t144 != t143) = true := bne_iff_ne.mpr c15
                obtain rfl := Option.some.inj H
                go_wp2_with (first | ((with_reducible refine gate_callee (f := 12) rfl ?_); refine goesL_ (some 21) rfl rfl Try.func12 (by kernel_rfl) rfl #[.string a0, .string a1] rfl (by (try simp only [List.map_toArray, List.map_cons, List.map_nil]); first | done | rfl | (simp only [List.length_drop, List.length_take]; rfl)) ?_; (with_reducible refine (textdiff_Distance.calls a0 a1 t143 _ A11.out).mono ?_); rintro e w22 ⟨rfl, hb⟩; refine ⟨_, rfl, ?_⟩; have n0_ := Aside0.mk (below_step (by repeat (first | (with_reducible first | exact HB.out | apply below_alloc | apply pw_below_drewN | apply below_drew1) | exact HB.out)) hb); clear HB; have HB := n0_; clear n0_; (try clear hb); (try clear hb2); (try clear hk); (try clear hi)) | ((with_reducible refine gate_callee (f := 12) rfl ?_); refine goesL_ (some 28) rfl rfl Try.func12 (by kernel_rfl) rfl #[.string (a2 ++ a0), .string (a2 ++ a1)] rfl (by (try simp only [List.map_toArray, List.map_cons, List.map_nil]); first | done | rfl | (simp only [List.length_drop, List.length_take]; rfl)) ?_; (with_reducible refine (textdiff_Distance.calls (a2 ++ a0) (a2 ++ a1) t144 _ A14.out).mono ?_); rintro e w23 ⟨rfl, hb⟩; refine ⟨_, rfl, ?_⟩; have n0_ := Aside0.mk (below_step (by repeat (first | (with_reducible first | exact HB.out | apply below_alloc | apply pw_below_drewN | apply below_drew1) | exact HB.out)) hb); clear HB; have HB := n0_; clear n0_; (try clear hb); (try clear hb2); (try clear hk); (try clear hi)))
                go_ret
                exact ⟨by first | rfl | (simp [errW_none, errW_some] <;> rfl) | (simp [*, errW_none, errW_some] <;> rfl), by repeat (first | (with_reducible first | exact HB.out | apply below_alloc | apply pw_below_drewN | apply below_drew1) | exact HB.out)⟩
            · rw [if_neg c13] at H
              exact absurd H (by simp)
          · rw [if_neg c12] at H
            exact absurd H (by simp)
  · replace c5 := Bool.eq_false_iff.mpr c5
    subst c5
    have H1 : (some false) = some r := by rw [if_neg (show ¬ (false = true) by decide)] at H; exact H
    clear H
    have H := H1
    clear H1
    obtain rfl := Option.some.inj H
    go_enter Try.func5, Try.ntmps5
    go_wp2_with (first | ((with_reducible refine gate_callee (f := 10) rfl ?_); refine goesL_ (some 8) rfl rfl Try.func10 (by kernel_rfl) rfl #[] rfl (by (try simp only [List.map_toArray, List.map_cons, List.map_nil]); first | done | rfl | (simp only [List.length_drop, List.length_take]; rfl)) ?_; (with_reducible refine (emendatelaw06_awake.calls k  false _ A4.out).mono ?_); rintro e w24 ⟨rfl, hb⟩; refine ⟨_, rfl, ?_⟩; have n0_ := Aside0.mk (below_step (by repeat (first | (with_reducible first | exact HB.out | apply below_alloc | apply pw_below_drewN | apply below_drew1) | exact HB.out)) hb); clear HB; have HB := n0_; clear n0_; (try clear hb); (try clear hb2); (try clear hk); (try clear hi)))
    go_ret
    exact ⟨by first | rfl | (simp [errW_none, errW_some] <;> rfl) | (simp [*, errW_none, errW_some] <;> rfl), by repeat (first | (with_reducible first | exact HB.out | apply below_alloc | apply pw_below_drewN | apply below_drew1) | exact HB.out)⟩

/-- THE ONE PURE STATEMENT of emendatelaw06_TextdiffCommonParts: yours. -/
def emendatelaw06_TextdiffCommonParts.Pure : Prop := ∀ (a0 : ByteArray) (a1 : ByteArray) (a2 : ByteArray), a0.size ≤ 140737488351232 → a1.size ≤ 140737488351232 → a2.size ≤ 140737488351232 → ∃ k, emendatelaw06_TextdiffCommonParts.f k a0 a1 a2 = some true
theorem emendatelaw06_TextdiffCommonParts.walk (P : emendatelaw06_TextdiffCommonParts.Pure) (a0 : ByteArray) (a1 : ByteArray) (a2 : ByteArray) (w : World) (w0 : a0.size ≤ 140737488351232) (w1 : a1.size ≤ 140737488351232) (w2 : a2.size ≤ 140737488351232) :
    Calls Try.prog 5 #[.string a0, .string a1, .string a2] w fun e w' => e = .returned (.bool true) ∧ Below w.heap.size w w' := by
  obtain ⟨k, h⟩ := P a0 a1 a2 w0 w1 w2
  refine (emendatelaw06_TextdiffCommonParts.calls k a0 a1 a2 true w h).mono ?_
  rintro e w' ⟨rfl, hd⟩
  exact ⟨rfl, hd⟩

end Go.Proofs.Ythhgfagnallcnaa.PA
