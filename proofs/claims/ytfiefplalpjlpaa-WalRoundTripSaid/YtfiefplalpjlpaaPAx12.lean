/- A part of a law as a program wrote it (wip/myprint.py, over the print of the kit): a function, what its call does, or the row of a law; Lean checks it. -/
import Derived.Test.YtfiefplalpjlpaaPAx0
import Derived.Test.YtfiefplalpjlpaaPAx4
import Derived.Test.YtfiefplalpjlpaaPAx11
namespace Go.Proofs.Ytfiefplalpjlpaa.PA
open Go.RowKit Go.Proofs.YtfiefplalpjlpaaW.PrintWords Go.Proofs.YtfiefplalpjlpaaW.PrintLast Go.Proofs.YtfiefplalpjlpaaW.PrintMore
attribute [local go_sem] max2_int min2_int max_two min_two max_three min_three max_four min_four   -- for this text's walks alone
set_option linter.unusedVariables false
set_option linter.unusedSimpArgs false

/-! ### wal_Decode: function 16 -/
def wal_Decode.l0 : Nat → ByteArray → List ByteArray → Int → Option (List ByteArray × Int)
  | 0, _, _, _ => none
  | k + 1, x0, x4, x5 => if 0 ≤ x5 then (if x5 ≤ (x0.size : Int) then (if ((x0.extract (x5 : Int).toNat x0.size).size : Int) < 8 then (some (x4, x5)) else ((wal_number.f (x0.extract (x5 : Int).toNat x0.size)).bind fun t111 => (if t111 > (IntKind.u64.wrap (wrap64 (((x0.extract (x5 : Int).toNat x0.size).size : Int) - 8))) then (some (x4, x5)) else (if 8 ≤ (wrap64 (8 + (wrap64 (t111)))) then (if (wrap64 (8 + (wrap64 (t111)))) ≤ ((x0.extract (x5 : Int).toNat x0.size).size : Int) then (if 4 ≤ 8 then (if 8 ≤ ((x0.extract (x5 : Int).toNat x0.size).size : Int) then ((wal_checksum.f ((x0.extract (x5 : Int).toNat x0.size).extract 8 ((wrap64 (8 + (wrap64 (t111)))) : Int).toNat)).bind fun t112 => (if ((x0.extract (x5 : Int).toNat x0.size).extract 4 8).toList = t112.toList then (if x4.length < 8796093022208 then (wal_Decode.l0 k x0 (x4 ++ [(x0.extract (x5 : Int).toNat x0.size).extract 8 ((wrap64 (8 + (wrap64 (t111)))) : Int).toNat]) (wrap64 (x5 + (wrap64 (8 + (wrap64 (t111))))))) else (none)) else (some (x4, x5)))) else (none)) else (none)) else (none)) else (none))))) else (none)) else (none)
def wal_Decode.f (k : Nat) (a0 : ByteArray) : Option (List ByteArray × Int) := wal_Decode.l0 k a0 ([] : List ByteArray) 0
theorem wal_Decode.mono_l : ∀ k, (∀ y0 y1 y2, LeO (wal_Decode.l0 k y0 y1 y2) (wal_Decode.l0 (k + 1) y0 y1 y2))
  | 0 => fun _ _ _ r h => by simp [wal_Decode.l0] at h
  | k + 1 => by
    have ih0 := wal_Decode.mono_l k
    · intro y0 y1 y2
      unfold wal_Decode.l0
      repeat' first
      | (with_reducible exact ih0 _ _ _)
      | (with_reducible exact LeO.refl _)
      | (with_reducible exact LeO.none _)
      | (with_reducible refine LeO.ite ?_ ?_)
      | (with_reducible refine LeO.bind ?_ (fun _ => ?_))
      | exact ih0 _ _ _
      | exact LeO.none _
      | refine LeO.ite ?_ ?_
      | refine LeO.bind ?_ (fun _ => ?_)
theorem wal_Decode.mono : ∀ a0 k, LeO (wal_Decode.f k a0) (wal_Decode.f (k + 1) a0) := by
  intro a0 k
  have ih0 := wal_Decode.mono_l k
  unfold wal_Decode.f
  repeat' first
      | (with_reducible exact ih0 _ _ _)
      | (with_reducible exact LeO.refl _)
      | (with_reducible exact LeO.none _)
      | (with_reducible refine LeO.ite ?_ ?_)
      | (with_reducible refine LeO.bind ?_ (fun _ => ?_))
      | exact ih0 _ _ _
      | exact LeO.none _
      | refine LeO.ite ?_ ?_
      | refine LeO.bind ?_ (fun _ => ?_)
set_option maxHeartbeats 8000000 in
set_option maxRecDepth 100000 in
theorem wal_Decode.calls (k : Nat) (a0 : ByteArray) (r1 : List ByteArray) (r2 : Int) (w : World) (h : wal_Decode.f k a0 = some (r1, r2)) :
    Calls Try.prog 16 #[.string a0] w fun e w' => ∃ v0_ : Value, e = .returned (.tuple #[v0_, .int .i64 r2]) ∧ Kd.R Kd.string 9 w' w.heap.size (fun _ => True) v0_ r1 ∧ Below w.heap.size w w' := by
  have HB := Aside0.mk (Below.refl w.heap.size w)
  have H : (wal_Decode.l0 k a0 ([] : List ByteArray) 0) = some (r1, r2) := h
  clear h
  have H' := Aside0.mk H
  clear H
  go_enter Try.func16, Try.ntmps16
  go_wp2
  go_loopg [4, 5] k (fun kq v4 v5 w' => ∃ (x4_1 : List ByteArray) (x5_1 : Int), v5 = .int .i64 x5_1 ∧ Aside0 (wal_Decode.l0 kq a0 x4_1 x5_1 = some (r1, r2)) ∧ Aside0 (kq ≤ k) ∧ Aside0 (Kd.R Kd.string 9 w' w.heap.size (fun _ => True) v4 x4_1) ∧ Aside0 (Below w.heap.size w w'))
  case atStart => exact ⟨(([] : List ByteArray)), (0), (by first | rfl | (simp; done) | (simp [*]; done)), H', ⟨Nat.le_refl _⟩, ⟨by first | exact Kd.R_nil _ _ _ _ _ | exact Kd.N_nil _ _ _ _ _ | exact Kd.V_nil _ _ _ _ _ | exact Kd.Q_nil _ _ _ _ _ | exact Kd.S_nil _ _ _ _ _⟩, ⟨by repeat (first | (with_reducible first | exact HB.out | apply below_alloc | apply pw_below_drewN | apply below_drew1) | exact HB.out)⟩⟩
  case round =>
    clear H'
    try clear c1
    obtain ⟨x4_1, x5_1, rfl, HA, HK1, HO_4, HB⟩ := hrel
    cases gk with
    | zero => exact absurd HA.out (by simp [wal_Decode.l0])
    | succ k1 =>
      have H := HA.out
      clear HA
      simp only [wal_Decode.l0] at H
      by_cases c2 : 0 ≤ x5_1
      · rw [if_pos c2] at H
        have c2b0 := eq_true c2
        try (have c2n := c2; simp only [ByteArray.size_append, ByteArray.size_extract, Nat.min_self] at c2n; (repeat (rw [Nat.min_eq_left] at c2n; rotate_left; (refine Int.toNat_le.2 ?_; exact of_decide_eq_true (by first | (with_reducible assumption) | assumption)))); (try simp only [Nat.sub_zero] at c2n); (first | have c2nf := eq_false (Nat.not_lt.2 c2n) | have c2nf := eq_false (Int.not_lt.2 c2n) | skip); replace c2n := eq_true c2n)
        have c2b1 : decide (0 ≤ x5_1) = true := decide_eq_true c2
        clear c2
        by_cases c3 : x5_1 ≤ (a0.size : Int)
        · rw [if_pos c3] at H
          have c3b0 := eq_true c3
          try (have c3n := c3; simp only [ByteArray.size_append, ByteArray.size_extract, Nat.min_self] at c3n; (repeat (rw [Nat.min_eq_left] at c3n; rotate_left; (refine Int.toNat_le.2 ?_; exact of_decide_eq_true (by first | (with_reducible assumption) | assumption)))); (try simp only [Nat.sub_zero] at c3n); (first | have c3nf := eq_false (Nat.not_lt.2 c3n) | have c3nf := eq_false (Int.not_lt.2 c3n) | skip); replace c3n := eq_true c3n)
          have c3b1 : decide (x5_1 ≤ (a0.size : Int)) = true := decide_eq_true c3
          clear c3
          by_cases c4 : ((a0.extract (x5_1 : Int).toNat a0.size).size : Int) < 8
          · rw [if_pos c4] at H
            have c4b0 : decide (((a0.extract (x5_1 : Int).toNat a0.size).size : Int) < 8) = true := decide_eq_true c4
            try (have c4b0z := c4b0; simp only [ByteArray.size_append, ByteArray.size_extract, Nat.min_self] at c4b0z; (repeat (rw [Nat.min_eq_left] at c4b0z; rotate_left; (refine Int.toNat_le.2 ?_; exact of_decide_eq_true (by first | (with_reducible assumption) | assumption)))); (try simp only [Nat.sub_zero] at c4b0z))
            have c4b1 : decide ((a0.extract (x5_1 : Int).toNat a0.size).size < 8) = true := decide_eq_true (by omega)
            try (have c4b1z := c4b1; simp only [ByteArray.size_append, ByteArray.size_extract, Nat.min_self] at c4b1z; (repeat (rw [Nat.min_eq_left] at c4b1z; rotate_left; (refine Int.toNat_le.2 ?_; exact of_decide_eq_true (by first | (with_reducible assumption) | assumption)))); (try simp only [Nat.sub_zero] at c4b1z))
            clear c4
            simp only [Option.some.injEq, Prod.mk.injEq] at H
            obtain ⟨rfl, rfl⟩ := H
            go_wp2
            go_ret2
            exact ⟨_, by first | rfl | (simp [errW_none, errW_some] <;> rfl) | (simp [*, errW_none, errW_some] <;> rfl), by (with_reducible repeat (first | apply Kd.R_alloc | apply Kd.R_drewN | apply Kd.R_drew)); exact HO_4.out, by repeat (first | (with_reducible first | exact HB.out | apply below_alloc | apply pw_below_drewN | apply below_drew1) | exact HB.out)⟩
          · rw [if_neg c4] at H
            have c4b0 : decide (((a0.extract (x5_1 : Int).toNat a0.size).size : Int) < 8) = false := decide_eq_false c4
            try (have c4b0z := c4b0; simp only [ByteArray.size_append, ByteArray.size_extract, Nat.min_self] at c4b0z; (repeat (rw [Nat.min_eq_left] at c4b0z; rotate_left; (refine Int.toNat_le.2 ?_; exact of_decide_eq_true (by first | (with_reducible assumption) | assumption)))); (try simp only [Nat.sub_zero] at c4b0z))
            have c4b1 : decide ((a0.extract (x5_1 : Int).toNat a0.size).size < 8) = false := decide_eq_false (by omega)
            try (have c4b1z := c4b1; simp only [ByteArray.size_append, ByteArray.size_extract, Nat.min_self] at c4b1z; (repeat (rw [Nat.min_eq_left] at c4b1z; rotate_left; (refine Int.toNat_le.2 ?_; exact of_decide_eq_true (by first | (with_reducible assumption) | assumption)))); (try simp only [Nat.sub_zero] at c4b1z))
            clear c4
            replace H := Option.bind_eq_some_iff.mp H
            obtain ⟨t111, A50, H⟩ := H
            replace H : (if t111 > (IntKind.u64.wrap (wrap64 (((a0.extract (x5_1 : Int).toNat a0.size).size : Int) - 8))) then (some (x4_1, x5_1)) else (if 8 ≤ (wrap64 (8 + (wrap64 (t111)))) then (if (wrap64 (8 + (wrap64 (t111)))) ≤ ((a0.extract (x5_1 : Int).toNat a0.size).size : Int) then (if 4 ≤ 8 then (if 8 ≤ ((a0.extract (x5_1 : Int).toNat a0.size).size : Int) then ((wal_checksum.f ((a0.extract (x5_1 : Int).toNat a0.size).extract 8 ((wrap64 (8 + (wrap64 (t111)))) : Int).toNat)).bind fun t112 => (if ((a0.extract (x5_1 : Int).toNat a0.size).extract 4 8).toList = t112.toList then (if x4_1.length < 8796093022208 then (wal_Decode.l0 k1 a0 (x4_1 ++ [(a0.extract (x5_1 : Int).toNat a0.size).extract 8 ((wrap64 (8 + (wrap64 (t111)))) : Int).toNat]) (wrap64 (x5_1 + (wrap64 (8 + (wrap64 (t111))))))) else (none)) else (some (x4_1, x5_1)))) else (none)) else (none)) else (none)) else (none))) = some (r1, r2) := H
            have A5 := Aside0.mk A50
            clear A50
            by_cases c6 : t111 > (IntKind.u64.wrap (wrap64 (((a0.extract (x5_1 : Int).toNat a0.size).size : Int) - 8)))
            · rw [if_pos c6] at H
              have c6b0 : decide ((IntKind.u64.wrap (wrap64 (((a0.extract (x5_1 : Int).toNat a0.size).size : Int) - 8))) < t111) = true := decide_eq_true c6
              try (have c6b0z := c6b0; simp only [ByteArray.size_append, ByteArray.size_extract, Nat.min_self] at c6b0z; (repeat (rw [Nat.min_eq_left] at c6b0z; rotate_left; (refine Int.toNat_le.2 ?_; exact of_decide_eq_true (by first | (with_reducible assumption) | assumption)))); (try simp only [Nat.sub_zero] at c6b0z))
              clear c6
              simp only [Option.some.injEq, Prod.mk.injEq] at H
              obtain ⟨rfl, rfl⟩ := H
              go_wp2_with (first | ((with_reducible refine gate_callee (f := 25) rfl ?_); refine goesL_ (some 18) rfl rfl Try.func25 (by kernel_rfl) rfl #[.string (a0.extract (x5_1 : Int).toNat a0.size)] rfl (by (try simp only [List.map_toArray, List.map_cons, List.map_nil]); first | done | rfl | (simp only [List.length_drop, List.length_take]; rfl)) ?_; (with_reducible refine (wal_number.calls (a0.extract (x5_1 : Int).toNat a0.size) t111 _ A5.out).mono ?_); rintro e w' ⟨rfl, ⟨nd, rfl⟩⟩; refine ⟨_, rfl, ?_⟩))
              go_ret2
              exact ⟨_, by first | rfl | (simp [errW_none, errW_some] <;> rfl) | (simp [*, errW_none, errW_some] <;> rfl), by (with_reducible repeat (first | apply Kd.R_alloc | apply Kd.R_drewN | apply Kd.R_drew)); exact HO_4.out, by repeat (first | (with_reducible first | exact HB.out | apply below_alloc | apply pw_below_drewN | apply below_drew1) | exact HB.out)⟩
            · rw [if_neg c6] at H
              have c6b0 : decide ((IntKind.u64.wrap (wrap64 (((a0.extract (x5_1 : Int).toNat a0.size).size : Int) - 8))) < t111) = false := decide_eq_false c6
              try (have c6b0z := c6b0; simp only [ByteArray.size_append, ByteArray.size_extract, Nat.min_self] at c6b0z; (repeat (rw [Nat.min_eq_left] at c6b0z; rotate_left; (refine Int.toNat_le.2 ?_; exact of_decide_eq_true (by first | (with_reducible assumption) | assumption)))); (try simp only [Nat.sub_zero] at c6b0z))
              clear c6
              by_cases c7 : 8 ≤ (wrap64 (8 + (wrap64 (t111))))
              · rw [if_pos c7] at H
                have c7b0 := eq_true c7
                try (have c7n := c7; simp only [ByteArray.size_append, ByteArray.size_extract, Nat.min_self] at c7n; (repeat (rw [Nat.min_eq_left] at c7n; rotate_left; (refine Int.toNat_le.2 ?_; exact of_decide_eq_true (by first | (with_reducible assumption) | assumption)))); (try simp only [Nat.sub_zero] at c7n); (first | have c7nf := eq_false (Nat.not_lt.2 c7n) | have c7nf := eq_false (Int.not_lt.2 c7n) | skip); replace c7n := eq_true c7n)
                have c7b1 : decide (8 ≤ (wrap64 (8 + (wrap64 (t111))))) = true := decide_eq_true c7
                by_cases c8 : (wrap64 (8 + (wrap64 (t111)))) ≤ ((a0.extract (x5_1 : Int).toNat a0.size).size : Int)
                · rw [if_pos c8] at H
                  have c8b0 := eq_true c8
                  try (have c8n := c8; simp only [ByteArray.size_append, ByteArray.size_extract, Nat.min_self] at c8n; (repeat (rw [Nat.min_eq_left] at c8n; rotate_left; (refine Int.toNat_le.2 ?_; exact of_decide_eq_true (by first | (with_reducible assumption) | assumption)))); (try simp only [Nat.sub_zero] at c8n); (first | have c8nf := eq_false (Nat.not_lt.2 c8n) | have c8nf := eq_false (Int.not_lt.2 c8n) | skip); replace c8n := eq_true c8n)
                  have c8b1 : decide ((wrap64 (8 + (wrap64 (t111)))) ≤ ((a0.extract (x5_1 : Int).toNat a0.size).size : Int)) = true := decide_eq_true c8
                  try (have c8b1z := c8b1; simp only [ByteArray.size_append, ByteArray.size_extract, Nat.min_self] at c8b1z; (repeat (rw [Nat.min_eq_left] at c8b1z; rotate_left; (refine Int.toNat_le.2 ?_; exact of_decide_eq_true (by first | (with_reducible assumption) | assumption)))); (try simp only [Nat.sub_zero] at c8b1z))
                  by_cases c9 : 4 ≤ 8
                  · rw [if_pos c9] at H
                    have c9b0 := eq_true c9
                    try (have c9n := c9; simp only [ByteArray.size_append, ByteArray.size_extract, Nat.min_self] at c9n; (repeat (rw [Nat.min_eq_left] at c9n; rotate_left; (refine Int.toNat_le.2 ?_; exact of_decide_eq_true (by first | (with_reducible assumption) | assumption)))); (try simp only [Nat.sub_zero] at c9n); (first | have c9nf := eq_false (Nat.not_lt.2 c9n) | have c9nf := eq_false (Int.not_lt.2 c9n) | skip); replace c9n := eq_true c9n)
                    have c9b1 : decide (4 ≤ 8) = true := decide_eq_true c9
                    clear c9
                    by_cases c10 : 8 ≤ ((a0.extract (x5_1 : Int).toNat a0.size).size : Int)
                    · rw [if_pos c10] at H
                      have c10b0 := eq_true c10
                      try (have c10n := c10; simp only [ByteArray.size_append, ByteArray.size_extract, Nat.min_self] at c10n; (repeat (rw [Nat.min_eq_left] at c10n; rotate_left; (refine Int.toNat_le.2 ?_; exact of_decide_eq_true (by first | (with_reducible assumption) | assumption)))); (try simp only [Nat.sub_zero] at c10n); (first | have c10nf := eq_false (Nat.not_lt.2 c10n) | have c10nf := eq_false (Int.not_lt.2 c10n) | skip); replace c10n := eq_true c10n)
                      have c10b1 : decide (8 ≤ ((a0.extract (x5_1 : Int).toNat a0.size).size : Int)) = true := decide_eq_true c10
                      try (have c10b1z := c10b1; simp only [ByteArray.size_append, ByteArray.size_extract, Nat.min_self] at c10b1z; (repeat (rw [Nat.min_eq_left] at c10b1z; rotate_left; (refine Int.toNat_le.2 ?_; exact of_decide_eq_true (by first | (with_reducible assumption) | assumption)))); (try simp only [Nat.sub_zero] at c10b1z))
                      clear c10
                      replace H := Option.bind_eq_some_iff.mp H
                      obtain ⟨t112, A110, H⟩ := H
                      replace H : (if ((a0.extract (x5_1 : Int).toNat a0.size).extract 4 8).toList = t112.toList then (if x4_1.length < 8796093022208 then (wal_Decode.l0 k1 a0 (x4_1 ++ [(a0.extract (x5_1 : Int).toNat a0.size).extract 8 ((wrap64 (8 + (wrap64 (t111)))) : Int).toNat]) (wrap64 (x5_1 + (wrap64 (8 + (wrap64 (t111))))))) else (none)) else (some (x4_1, x5_1))) = some (r1, r2) := H
                      have A11 := Aside0.mk A110
                      clear A110
                      by_cases c12 : ((a0.extract (x5_1 : Int).toNat a0.size).extract 4 8).toList = t112.toList
                      · rw [if_pos c12] at H
                        have c12b0 : (((a0.extract (x5_1 : Int).toNat a0.size).extract 4 8).toList == t112.toList) = true := beq_iff_eq.mpr c12
                        try (have c12b0z := c12b0; simp only [ByteArray.size_append, ByteArray.size_extract, Nat.min_self] at c12b0z; (repeat (rw [Nat.min_eq_left] at c12b0z; rotate_left; (refine Int.toNat_le.2 ?_; exact of_decide_eq_true (by first | (with_reducible assumption) | assumption)))); (try simp only [Nat.sub_zero] at c12b0z))
                        have c12b1 : (((a0.extract (x5_1 : Int).toNat a0.size).extract 4 8).toList != t112.toList) = false := bne_eq_false_iff_eq.mpr c12
                        try (have c12b1z := c12b1; simp only [ByteArray.size_append, ByteArray.size_extract, Nat.min_self] at c12b1z; (repeat (rw [Nat.min_eq_left] at c12b1z; rotate_left; (refine Int.toNat_le.2 ?_; exact of_decide_eq_true (by first | (with_reducible assumption) | assumption)))); (try simp only [Nat.sub_zero] at c12b1z))
                        clear c12
                        by_cases c13 : x4_1.length < 8796093022208
                        · rw [if_pos c13] at H
                          have LMc13 := Aside0.mk c13
                          clear c13
                          obtain ⟨y113, hy113⟩ : ∃ y_ : List ByteArray, y_ = (x4_1 ++ [(a0.extract (x5_1 : Int).toNat a0.size).extract 8 ((wrap64 (8 + (wrap64 (t111)))) : Int).toNat]) := ⟨_, rfl⟩
                          replace H : (wal_Decode.l0 k1 a0 y113 (wrap64 (x5_1 + (wrap64 (8 + (wrap64 (t111))))))) = some (r1, r2) := by first | (rw [hy113]; with_reducible exact H) | (have H2_ := (Option.bind_some _ _).symm.trans H; rw [hy113]; with_reducible exact H2_) | (have H2_ := (Option.bind_some _ _).symm.trans H; with_reducible exact H2_) | with_reducible exact H | (rw [hy113]; exact H) | exact H
                          have Ny113 := Aside0.mk hy113
                          clear hy113
                          have H' := Aside0.mk H
                          clear H
                          try go_wp2_with (first | ((with_reducible refine gate_callee (f := 25) rfl ?_); refine goesL_ (some 18) rfl rfl Try.func25 (by kernel_rfl) rfl #[.string (a0.extract (x5_1 : Int).toNat a0.size)] rfl (by (try simp only [List.map_toArray, List.map_cons, List.map_nil]); first | done | rfl | (simp only [List.length_drop, List.length_take]; rfl)) ?_; (with_reducible refine (wal_number.calls (a0.extract (x5_1 : Int).toNat a0.size) t111 _ A5.out).mono ?_); rintro e w' ⟨rfl, ⟨nd, rfl⟩⟩; refine ⟨_, rfl, ?_⟩))
                          (try (rw [drewN_self wr]; generalize hq_ : World.drewN wr _ = wr; have n0_ : Aside0 (Kd.R Kd.string 9 wr w.heap.size (fun _ => True) u4 x4_1) := ⟨by rw [← hq_]; exact (by (with_reducible repeat (first | apply Kd.R_alloc | apply Kd.R_drewN | apply Kd.R_drew)); exact HO_4.out)⟩; have n1_ : Aside0 (Below w.heap.size w wr) := ⟨by rw [← hq_]; exact (by repeat (first | (with_reducible first | exact HB.out | apply below_alloc | apply pw_below_drewN | apply below_drew1) | exact HB.out))⟩; clear HO_4 HB hq_; have HO_4 := n0_; have HB := n1_; clear n0_ n1_))
                          have n0_ := Aside0.mk (Kd.R_drew HO_4.out)
                          have n1_ := Aside0.mk (below_drew1 HB.out)
                          clear HO_4
                          clear HB
                          have HO_4 := n0_
                          have HB := n1_
                          clear n0_ n1_
                          refine start_ (n := 5) (S := fun w' => True) (ds := []) #[false, false, false, false, false] (by kernel_rfl) rfl rfl trivial (fun hHeld => ?_)
                          generalize wr.drew = w14 at HO_4 HB hHeld ⊢
                          refine pure_ (i := 0) (N := some 32) (v := ?_) (a' := ?_) #[true, false, false, false, false] rfl rfl (by kernel_rfl) (fun _ _ _ h => h) (Or.inl ⟨by rfl, ?_⟩) ?_ ?_
                          rotate_left
                          · intro w'
                            go_simp
                            with_reducible rfl
                          rotate_left
                          · simp only [Act.put, List.setIfInBounds_toArray, List.set_cons_zero, List.set_cons_succ, i64_w, i32_w]
                            rfl
                          refine pure_ (i := 1) (N := some 33) (v := ?_) (a' := ?_) #[true, true, false, false, false] rfl rfl (by kernel_rfl) (fun _ _ _ h => h) (Or.inl ⟨by rfl, ?_⟩) ?_ ?_
                          rotate_left
                          · intro w'
                            go_simp
                            with_reducible rfl
                          rotate_left
                          · simp only [Act.put, List.setIfInBounds_toArray, List.set_cons_zero, List.set_cons_succ, i64_w, i32_w]
                            rfl
                          refine pure_ (i := 2) (N := some 34) (v := ?_) (a' := ?_) #[true, true, true, false, false] rfl rfl (by kernel_rfl) (fun _ _ _ h => h) (Or.inl ⟨by rfl, ?_⟩) ?_ ?_
                          rotate_left
                          · intro w'
                            go_simp
                            with_reducible rfl
                          rotate_left
                          · simp only [Act.put, List.setIfInBounds_toArray, List.set_cons_zero, List.set_cons_succ, i64_w, i32_w]
                            rfl
                          refine one_ (i := 3) (N := some 35) #[true, true, true, true, false] rfl rfl (by kernel_rfl) (by decide) (fun K hK => ?_)
                          refine goes_ Try.func22 (by kernel_rfl) rfl #[.string ((a0.extract (x5_1 : Int).toNat a0.size).extract 8 ((wrap64 (8 + (wrap64 (t111)))) : Int).toNat)] (by rfl) rfl rfl (by (try simp only [List.map_toArray, List.map_cons, List.map_nil]); first | done | rfl | (simp only [List.length_drop, List.length_take]; rfl)) ?_
                          with_reducible refine (wal_checksum.calls ((a0.extract (x5_1 : Int).toNat a0.size).extract 8 ((wrap64 (8 + (wrap64 (t111)))) : Int).toNat) t112 _ A11.out).mono ?_
                          rintro e w15 ⟨rfl, hb⟩
                          refine ⟨_, rfl, ?_⟩
                          have n0_ := Aside0.mk (Kd.R_below (by (with_reducible repeat (first | apply Kd.R_alloc | apply Kd.R_drewN | apply Kd.R_drew)); exact HO_4.out) hb)
                          have n1_ := Aside0.mk (below_step (by repeat (first | (with_reducible first | exact HB.out | apply below_alloc | apply pw_below_drewN | apply below_drew1) | exact HB.out)) hb)
                          clear HO_4
                          clear HB
                          have HO_4 := n0_
                          have HB := n1_
                          clear n0_ n1_
                          (try clear hb)
                          (try clear hb2)
                          (try clear hk)
                          (try clear hi)
                          refine hK.out _ _ trivial (fun hHeld => ?_)
                          clear hK K
                          refine norm_ (a' := ?_) ?_ ?_
                          rotate_left
                          · show Act.put _ (some 35) _ = _
                            simp only [Act.put, List.setIfInBounds_toArray, List.set_cons_zero, List.set_cons_succ, i64_w, i32_w]
                            rfl
                          refine pure_ (i := 4) (N := some 36) (v := ?_) (a' := ?_) #[true, true, true, true, true] rfl rfl (by kernel_rfl) (fun _ _ _ h => h) (Or.inl ⟨by rfl, ?_⟩) ?_ ?_
                          rotate_left
                          · intro w'
                            go_simp
                            with_reducible rfl
                          rotate_left
                          · simp only [Act.put, List.setIfInBounds_toArray, List.set_cons_zero, List.set_cons_succ, i64_w, i32_w]
                            rfl
                          refine done_ (by kernel_rfl) ?_
                          try go_wp2_with (first | ((with_reducible refine gate_builtin (b := .append) (xs := #[.tmp 39, .tmp 41]) rfl ?_); at_builtin; refine Kd.R_append Kd.string (w0 := w) w.heap.size rfl (.tmp 39) (.tmp 41) 22 9 (.string ⟨#[]⟩) 16 rfl Try.underlying22 info9 rfl (by decide) (by omega) u4 x4_1 ((a0.extract (x5_1 : Int).toNat a0.size).extract 8 ((wrap64 (8 + (wrap64 (t111)))) : Int).toNat) [.string ((a0.extract (x5_1 : Int).toNat a0.size).extract 8 ((wrap64 (8 + (wrap64 (t111)))) : Int).toNat)] (fun _ => True) (fun _ => False) rfl rfl ?aP (fun _ hk => hk.elim) ?aF ?aO ?aB ?aS ?aL ?_; (case aP => exact rfl); (case aB => exact (by repeat (first | (with_reducible first | exact HB.out | apply below_alloc | apply pw_below_drewN | apply below_drew1) | exact HB.out))); (case aF => exact (fun _ _ => trivial)); (case aO => exact (by (with_reducible repeat (first | apply Kd.R_alloc | apply Kd.R_drewN | apply Kd.R_drew)); exact HO_4.out)); (case aS => exact (below_size (by repeat (first | (with_reducible first | exact HB.out | apply below_alloc | apply pw_below_drewN | apply below_drew1) | exact HB.out)))); (case aL => have := LMc13.out; omega); intro v114 w16 ho hb hg hat; rw [← Ny113.out] at ho; have n0_ := Aside0.mk (hb); have n1_ := Aside0.mk (ho); clear HB; clear HO_4; have HB := n0_; have HO115 := n1_; clear n0_ n1_; clear ho hb hg hat))
                          go_roundg k1
                          case measure => have := HK1.out; omega
                          case rel => exact ⟨(y113), (wrap64 (x5_1 + (wrap64 (8 + (wrap64 (t111)))))), (by first | rfl | (simp; done) | (simp [*]; done)), H', ⟨by have := HK1.out; omega⟩, ⟨by (with_reducible repeat (first | apply Kd.R_alloc | apply Kd.R_drewN | apply Kd.R_drew)); exact HO115.out⟩, ⟨by repeat (first | (with_reducible first | exact HB.out | apply below_alloc | apply pw_below_drewN | apply below_drew1) | exact HB.out)⟩⟩
                        · rw [if_neg c13] at H
                          exact absurd H (by simp)
                      · rw [if_neg c12] at H
                        have c12b0 : (((a0.extract (x5_1 : Int).toNat a0.size).extract 4 8).toList == t112.toList) = false := beq_eq_false_iff_ne.mpr c12
                        try (have c12b0z := c12b0; simp only [ByteArray.size_append, ByteArray.size_extract, Nat.min_self] at c12b0z; (repeat (rw [Nat.min_eq_left] at c12b0z; rotate_left; (refine Int.toNat_le.2 ?_; exact of_decide_eq_true (by first | (with_reducible assumption) | assumption)))); (try simp only [Nat.sub_zero] at c12b0z))
                        have c12b1 : (((a0.extract (x5_1 : Int).toNat a0.size).extract 4 8).toList != t112.toList) = true := bne_iff_ne.mpr c12
                        try (have c12b1z := c12b1; simp only [ByteArray.size_append, ByteArray.size_extract, Nat.min_self] at c12b1z; (repeat (rw [Nat.min_eq_left] at c12b1z; rotate_left; (refine Int.toNat_le.2 ?_; exact of_decide_eq_true (by first | (with_reducible assumption) | assumption)))); (try simp only [Nat.sub_zero] at c12b1z))
                        simp only [Option.some.injEq, Prod.mk.injEq] at H
                        obtain ⟨rfl, rfl⟩ := H
                        try go_wp2_with (first | ((with_reducible refine gate_callee (f := 25) rfl ?_); refine goesL_ (some 18) rfl rfl Try.func25 (by kernel_rfl) rfl #[.string (a0.extract (x5_1 : Int).toNat a0.size)] rfl (by (try simp only [List.map_toArray, List.map_cons, List.map_nil]); first | done | rfl | (simp only [List.length_drop, List.length_take]; rfl)) ?_; (with_reducible refine (wal_number.calls (a0.extract (x5_1 : Int).toNat a0.size) t111 _ A5.out).mono ?_); rintro e w' ⟨rfl, ⟨nd, rfl⟩⟩; refine ⟨_, rfl, ?_⟩))
                        (try (rw [drewN_self wr]; generalize hq_ : World.drewN wr _ = wr; have n0_ : Aside0 (Kd.R Kd.string 9 wr w.heap.size (fun _ => True) u4 x4_1) := ⟨by rw [← hq_]; exact (by (with_reducible repeat (first | apply Kd.R_alloc | apply Kd.R_drewN | apply Kd.R_drew)); exact HO_4.out)⟩; have n1_ : Aside0 (Below w.heap.size w wr) := ⟨by rw [← hq_]; exact (by repeat (first | (with_reducible first | exact HB.out | apply below_alloc | apply pw_below_drewN | apply below_drew1) | exact HB.out))⟩; clear HO_4 HB hq_; have HO_4 := n0_; have HB := n1_; clear n0_ n1_))
                        have n0_ := Aside0.mk (Kd.R_drew HO_4.out)
                        have n1_ := Aside0.mk (below_drew1 HB.out)
                        clear HO_4
                        clear HB
                        have HO_4 := n0_
                        have HB := n1_
                        clear n0_ n1_
                        refine start_ (n := 5) (S := fun w' => True) (ds := []) #[false, false, false, false, false] (by kernel_rfl) rfl rfl trivial (fun hHeld => ?_)
                        generalize wr.drew = w17 at HO_4 HB hHeld ⊢
                        refine pure_ (i := 0) (N := some 32) (v := ?_) (a' := ?_) #[true, false, false, false, false] rfl rfl (by kernel_rfl) (fun _ _ _ h => h) (Or.inl ⟨by rfl, ?_⟩) ?_ ?_
                        rotate_left
                        · intro w'
                          go_simp
                          with_reducible rfl
                        rotate_left
                        · simp only [Act.put, List.setIfInBounds_toArray, List.set_cons_zero, List.set_cons_succ, i64_w, i32_w]
                          rfl
                        refine pure_ (i := 1) (N := some 33) (v := ?_) (a' := ?_) #[true, true, false, false, false] rfl rfl (by kernel_rfl) (fun _ _ _ h => h) (Or.inl ⟨by rfl, ?_⟩) ?_ ?_
                        rotate_left
                        · intro w'
                          go_simp
                          with_reducible rfl
                        rotate_left
                        · simp only [Act.put, List.setIfInBounds_toArray, List.set_cons_zero, List.set_cons_succ, i64_w, i32_w]
                          rfl
                        refine pure_ (i := 2) (N := some 34) (v := ?_) (a' := ?_) #[true, true, true, false, false] rfl rfl (by kernel_rfl) (fun _ _ _ h => h) (Or.inl ⟨by rfl, ?_⟩) ?_ ?_
                        rotate_left
                        · intro w'
                          go_simp
                          with_reducible rfl
                        rotate_left
                        · simp only [Act.put, List.setIfInBounds_toArray, List.set_cons_zero, List.set_cons_succ, i64_w, i32_w]
                          rfl
                        refine one_ (i := 3) (N := some 35) #[true, true, true, true, false] rfl rfl (by kernel_rfl) (by decide) (fun K hK => ?_)
                        refine goes_ Try.func22 (by kernel_rfl) rfl #[.string ((a0.extract (x5_1 : Int).toNat a0.size).extract 8 ((wrap64 (8 + (wrap64 (t111)))) : Int).toNat)] (by rfl) rfl rfl (by (try simp only [List.map_toArray, List.map_cons, List.map_nil]); first | done | rfl | (simp only [List.length_drop, List.length_take]; rfl)) ?_
                        with_reducible refine (wal_checksum.calls ((a0.extract (x5_1 : Int).toNat a0.size).extract 8 ((wrap64 (8 + (wrap64 (t111)))) : Int).toNat) t112 _ A11.out).mono ?_
                        rintro e w18 ⟨rfl, hb⟩
                        refine ⟨_, rfl, ?_⟩
                        have n0_ := Aside0.mk (Kd.R_below (by (with_reducible repeat (first | apply Kd.R_alloc | apply Kd.R_drewN | apply Kd.R_drew)); exact HO_4.out) hb)
                        have n1_ := Aside0.mk (below_step (by repeat (first | (with_reducible first | exact HB.out | apply below_alloc | apply pw_below_drewN | apply below_drew1) | exact HB.out)) hb)
                        clear HO_4
                        clear HB
                        have HO_4 := n0_
                        have HB := n1_
                        clear n0_ n1_
                        (try clear hb)
                        (try clear hb2)
                        (try clear hk)
                        (try clear hi)
                        refine hK.out _ _ trivial (fun hHeld => ?_)
                        clear hK K
                        refine norm_ (a' := ?_) ?_ ?_
                        rotate_left
                        · show Act.put _ (some 35) _ = _
                          simp only [Act.put, List.setIfInBounds_toArray, List.set_cons_zero, List.set_cons_succ, i64_w, i32_w]
                          rfl
                        refine pure_ (i := 4) (N := some 36) (v := ?_) (a' := ?_) #[true, true, true, true, true] rfl rfl (by kernel_rfl) (fun _ _ _ h => h) (Or.inl ⟨by rfl, ?_⟩) ?_ ?_
                        rotate_left
                        · intro w'
                          go_simp
                          with_reducible rfl
                        rotate_left
                        · simp only [Act.put, List.setIfInBounds_toArray, List.set_cons_zero, List.set_cons_succ, i64_w, i32_w]
                          rfl
                        refine done_ (by kernel_rfl) ?_
                        try go_wp2
                        go_ret2
                        exact ⟨_, by first | rfl | (simp [errW_none, errW_some] <;> rfl) | (simp [*, errW_none, errW_some] <;> rfl), by (with_reducible repeat (first | apply Kd.R_alloc | apply Kd.R_drewN | apply Kd.R_drew)); exact HO_4.out, by repeat (first | (with_reducible first | exact HB.out | apply below_alloc | apply pw_below_drewN | apply below_drew1) | exact HB.out)⟩
                    · rw [if_neg c10] at H
                      exact absurd H (by simp)
                  · rw [if_neg c9] at H
                    exact absurd H (by simp)
                · rw [if_neg c8] at H
                  exact absurd H (by simp)
              · rw [if_neg c7] at H
                exact absurd H (by simp)
        · rw [if_neg c3] at H
          exact absurd H (by simp)
      · rw [if_neg c2] at H
        exact absurd H (by simp)

end Go.Proofs.Ytfiefplalpjlpaa.PA
