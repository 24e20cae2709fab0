/- A part of a law as a program wrote it (wip/myprint.py, over the print of the kit): a function, what its call does, or the row of a law; Lean checks it. -/
import Derived.Test.YtfiefplalpjlpaaPAx0
import Derived.Test.YtfiefplalpjlpaaPAx10
import Derived.Test.YtfiefplalpjlpaaPAx12
import Derived.Test.YtfiefplalpjlpaaPAx13
import Derived.Test.YtfiefplalpjlpaaPAx14
import Derived.Test.YtfiefplalpjlpaaPAx21
namespace Go.Proofs.Ytfiefplalpjlpaa.PA
open Go.RowKit Go.Proofs.YtfiefplalpjlpaaW.PrintWords Go.Proofs.YtfiefplalpjlpaaW.PrintLast Go.Proofs.YtfiefplalpjlpaaW.PrintMore
attribute [local go_sem] max2_int min2_int max_two min_two max_three min_three max_four min_four   -- for this text's walks alone
set_option linter.unusedVariables false
set_option linter.unusedSimpArgs false

/-! ### emendatelaw51_WalTruncation: function 6 -/
def emendatelaw51_WalTruncation.l0 : Nat → List ByteArray → Int → List ByteArray → Int → Int → Int → Option (Bool)
  | 0, _, _, _, _, _, _ => none
  | k + 1, x0, x6, x7, x8, x9, x10 => if x9 < (x0.length : Int) then (if 0 ≤ x9 then (if (wrap64 ((wrap64 (x10 + 8)) + ((rdOf ByteArray.empty x0 x9).size : Int))) ≤ x6 then (emendatelaw51_WalTruncation.l0 k x0 x6 x7 x8 (wrap64 (x9 + 1)) (wrap64 ((wrap64 (x10 + 8)) + ((rdOf ByteArray.empty x0 x9).size : Int)))) else (if x9 ≤ (x0.length : Int) then ((emendateref51_Same.f k x7 (x0.take (x9 : Int).toNat)).bind fun t177 => (if t177 = true then (some (x8 == x10)) else (some false))) else (none))) else (none)) else (if 0 ≤ x9 then (if x9 ≤ (x0.length : Int) then ((emendateref51_Same.f k x7 (x0.take (x9 : Int).toNat)).bind fun t179 => (if t179 = true then (some (x8 == x10)) else (some false))) else (none)) else (none))
def emendatelaw51_WalTruncation.f (k : Nat) (l0 : List ByteArray) (a1 : Int) : Option (Bool) := (emendatelaw51_awake.f k).bind fun t167 => (if t167 = true then ((emendateref51_Few.f k l0).bind fun t168 => (if t168 = true then ((wal_Encode.f l0).bind fun t169 => (if (wrap64 ((t169.size : Int) + 1)) = 0 then (none) else (if 0 ≤ (Int.tmod (wrap64 (a1)) (wrap64 ((t169.size : Int) + 1))) then (if (Int.tmod (wrap64 (a1)) (wrap64 ((t169.size : Int) + 1))) ≤ (t169.size : Int) then ((wal_Decode.f k (t169.extract 0 ((Int.tmod (wrap64 (a1)) (wrap64 ((t169.size : Int) + 1))) : Int).toNat)).bind fun bt170 => (emendatelaw51_WalTruncation.l0 k l0 (Int.tmod (wrap64 (a1)) (wrap64 ((t169.size : Int) + 1))) bt170.1 bt170.2 0 0)) else (none)) else (none)))) else (some true))) else (some false))
theorem emendatelaw51_WalTruncation.mono_l : ∀ k, (∀ y0 y1 y2 y3 y4 y5, LeO (emendatelaw51_WalTruncation.l0 k y0 y1 y2 y3 y4 y5) (emendatelaw51_WalTruncation.l0 (k + 1) y0 y1 y2 y3 y4 y5))
  | 0 => fun _ _ _ _ _ _ r h => by simp [emendatelaw51_WalTruncation.l0] at h
  | k + 1 => by
    have ih0 := emendatelaw51_WalTruncation.mono_l k
    · intro y0 y1 y2 y3 y4 y5
      unfold emendatelaw51_WalTruncation.l0
      repeat' first
      | (with_reducible exact ih0 _ _ _ _ _ _)
      | (with_reducible exact emendatelaw51_awake.mono _)
      | (with_reducible exact emendateref51_Few.mono _ _)
      | (with_reducible exact emendateref51_Same.mono _ _ _)
      | (with_reducible exact wal_Decode.mono _ _)
      | (with_reducible exact LeO.refl _)
      | (with_reducible exact LeO.none _)
      | (with_reducible refine LeO.ite ?_ ?_)
      | (with_reducible refine LeO.bind ?_ (fun _ => ?_))
      | exact ih0 _ _ _ _ _ _
      | exact emendatelaw51_awake.mono _
      | exact emendateref51_Few.mono _ _
      | exact emendateref51_Same.mono _ _ _
      | exact wal_Decode.mono _ _
      | exact LeO.none _
      | refine LeO.ite ?_ ?_
      | refine LeO.bind ?_ (fun _ => ?_)
theorem emendatelaw51_WalTruncation.mono : ∀ a0 a1 k, LeO (emendatelaw51_WalTruncation.f k a0 a1) (emendatelaw51_WalTruncation.f (k + 1) a0 a1) := by
  intro a0 a1 k
  have ih0 := emendatelaw51_WalTruncation.mono_l k
  unfold emendatelaw51_WalTruncation.f
  repeat' first
      | (with_reducible exact ih0 _ _ _ _ _ _)
      | (with_reducible exact emendatelaw51_awake.mono _)
      | (with_reducible exact emendateref51_Few.mono _ _)
      | (with_reducible exact emendateref51_Same.mono _ _ _)
      | (with_reducible exact wal_Decode.mono _ _)
      | (with_reducible exact LeO.refl _)
      | (with_reducible exact LeO.none _)
      | (with_reducible refine LeO.ite ?_ ?_)
      | (with_reducible refine LeO.bind ?_ (fun _ => ?_))
      | exact ih0 _ _ _ _ _ _
      | exact emendatelaw51_awake.mono _
      | exact emendateref51_Few.mono _ _
      | exact emendateref51_Same.mono _ _ _
      | exact wal_Decode.mono _ _
      | exact LeO.none _
      | refine LeO.ite ?_ ?_
      | refine LeO.bind ?_ (fun _ => ?_)
set_option maxHeartbeats 8000000 in
set_option maxRecDepth 100000 in
theorem emendatelaw51_WalTruncation.calls (k : Nat) (A0 : Option Addr) (c0 : Nat) (l0 : List ByteArray) (a1 : Int) (r : Bool) (w : World) (hr0 : Kd.C Kd.string w A0 l0.length l0) (hc0 : l0.length ≤ c0) (h : emendatelaw51_WalTruncation.f k l0 a1 = some r) :
    Calls Try.prog 6 #[.slice A0 l0.length c0, .int .u16 a1] w fun e w' => e = .returned (.bool r) ∧ Below w.heap.size w w' := by
  have HR0 := Aside0.mk hr0
  have HC0 := Aside0.mk hc0
  clear hr0 hc0
  have HB := Aside0.mk (Below.refl w.heap.size w)
  have H : ((emendatelaw51_awake.f k).bind fun t167 => (if t167 = true then ((emendateref51_Few.f k l0).bind fun t168 => (if t168 = true then ((wal_Encode.f l0).bind fun t169 => (if (wrap64 ((t169.size : Int) + 1)) = 0 then (none) else (if 0 ≤ (Int.tmod (wrap64 (a1)) (wrap64 ((t169.size : Int) + 1))) then (if (Int.tmod (wrap64 (a1)) (wrap64 ((t169.size : Int) + 1))) ≤ (t169.size : Int) then ((wal_Decode.f k (t169.extract 0 ((Int.tmod (wrap64 (a1)) (wrap64 ((t169.size : Int) + 1))) : Int).toNat)).bind fun bt170 => (emendatelaw51_WalTruncation.l0 k l0 (Int.tmod (wrap64 (a1)) (wrap64 ((t169.size : Int) + 1))) bt170.1 bt170.2 0 0)) else (none)) else (none)))) else (some true))) else (some false))) = some r := h
  clear h
  replace H := Option.bind_eq_some_iff.mp H
  obtain ⟨t167, A30, H⟩ := H
  replace H : (if t167 = true then ((emendateref51_Few.f k l0).bind fun t168 => (if t168 = true then ((wal_Encode.f l0).bind fun t169 => (if (wrap64 ((t169.size : Int) + 1)) = 0 then (none) else (if 0 ≤ (Int.tmod (wrap64 (a1)) (wrap64 ((t169.size : Int) + 1))) then (if (Int.tmod (wrap64 (a1)) (wrap64 ((t169.size : Int) + 1))) ≤ (t169.size : Int) then ((wal_Decode.f k (t169.extract 0 ((Int.tmod (wrap64 (a1)) (wrap64 ((t169.size : Int) + 1))) : Int).toNat)).bind fun bt170 => (emendatelaw51_WalTruncation.l0 k l0 (Int.tmod (wrap64 (a1)) (wrap64 ((t169.size : Int) + 1))) bt170.1 bt170.2 0 0)) else (none)) else (none)))) else (some true))) else (some false)) = some r := H
  have A3 := Aside0.mk A30
  clear A30
  by_cases c4 : t167 = true
  · subst c4
    have H1 : ((emendateref51_Few.f k l0).bind fun t168 => (if t168 = true then ((wal_Encode.f l0).bind fun t169 => (if (wrap64 ((t169.size : Int) + 1)) = 0 then (none) else (if 0 ≤ (Int.tmod (wrap64 (a1)) (wrap64 ((t169.size : Int) + 1))) then (if (Int.tmod (wrap64 (a1)) (wrap64 ((t169.size : Int) + 1))) ≤ (t169.size : Int) then ((wal_Decode.f k (t169.extract 0 ((Int.tmod (wrap64 (a1)) (wrap64 ((t169.size : Int) + 1))) : Int).toNat)).bind fun bt170 => (emendatelaw51_WalTruncation.l0 k l0 (Int.tmod (wrap64 (a1)) (wrap64 ((t169.size : Int) + 1))) bt170.1 bt170.2 0 0)) else (none)) else (none)))) else (some true))) = some r := by rw [if_pos rfl] at H; exact H
    clear H
    have H := H1
    clear H1
    replace H := Option.bind_eq_some_iff.mp H
    obtain ⟨t168, A50, H⟩ := H
    replace H : (if t168 = true then ((wal_Encode.f l0).bind fun t169 => (if (wrap64 ((t169.size : Int) + 1)) = 0 then (none) else (if 0 ≤ (Int.tmod (wrap64 (a1)) (wrap64 ((t169.size : Int) + 1))) then (if (Int.tmod (wrap64 (a1)) (wrap64 ((t169.size : Int) + 1))) ≤ (t169.size : Int) then ((wal_Decode.f k (t169.extract 0 ((Int.tmod (wrap64 (a1)) (wrap64 ((t169.size : Int) + 1))) : Int).toNat)).bind fun bt170 => (emendatelaw51_WalTruncation.l0 k l0 (Int.tmod (wrap64 (a1)) (wrap64 ((t169.size : Int) + 1))) bt170.1 bt170.2 0 0)) else (none)) else (none)))) else (some true)) = some r := H
    have A5 := Aside0.mk A50
    clear A50
    by_cases c6 : t168 = true
    · subst c6
      have H1 : ((wal_Encode.f l0).bind fun t169 => (if (wrap64 ((t169.size : Int) + 1)) = 0 then (none) else (if 0 ≤ (Int.tmod (wrap64 (a1)) (wrap64 ((t169.size : Int) + 1))) then (if (Int.tmod (wrap64 (a1)) (wrap64 ((t169.size : Int) + 1))) ≤ (t169.size : Int) then ((wal_Decode.f k (t169.extract 0 ((Int.tmod (wrap64 (a1)) (wrap64 ((t169.size : Int) + 1))) : Int).toNat)).bind fun bt170 => (emendatelaw51_WalTruncation.l0 k l0 (Int.tmod (wrap64 (a1)) (wrap64 ((t169.size : Int) + 1))) bt170.1 bt170.2 0 0)) else (none)) else (none)))) = some r := by rw [if_pos rfl] at H; exact H
      clear H
      have H := H1
      clear H1
      replace H := Option.bind_eq_some_iff.mp H
      obtain ⟨t169, A70, H⟩ := H
      replace H : (if (wrap64 ((t169.size : Int) + 1)) = 0 then (none) else (if 0 ≤ (Int.tmod (wrap64 (a1)) (wrap64 ((t169.size : Int) + 1))) then (if (Int.tmod (wrap64 (a1)) (wrap64 ((t169.size : Int) + 1))) ≤ (t169.size : Int) then ((wal_Decode.f k (t169.extract 0 ((Int.tmod (wrap64 (a1)) (wrap64 ((t169.size : Int) + 1))) : Int).toNat)).bind fun bt170 => (emendatelaw51_WalTruncation.l0 k l0 (Int.tmod (wrap64 (a1)) (wrap64 ((t169.size : Int) + 1))) bt170.1 bt170.2 0 0)) else (none)) else (none))) = some r := H
      have A7 := Aside0.mk A70
      clear A70
      by_cases c8 : (wrap64 ((t169.size : Int) + 1)) = 0
      · rw [if_pos c8] at H
        exact absurd H (by simp)
      · rw [if_neg c8] at H
        have c8b0 : ((wrap64 ((t169.size : Int) + 1)) == 0) = false := beq_eq_false_iff_ne.mpr c8
        have c8b1 : ((wrap64 ((t169.size : Int) + 1)) != 0) = true := bne_iff_ne.mpr c8
        obtain ⟨ji9, hji9⟩ : ∃ j_ : Int, (Int.tmod (wrap64 (a1)) (wrap64 ((t169.size : Int) + 1))) = j_ := ⟨_, rfl⟩
        replace H : (if 0 ≤ (ji9) then (if (ji9) ≤ (t169.size : Int) then ((wal_Decode.f k (t169.extract 0 ((ji9) : Int).toNat)).bind fun bt170 => (emendatelaw51_WalTruncation.l0 k l0 ji9 bt170.1 bt170.2 0 0)) else (none)) else (none)) = some r := by first | (rw [hji9] at H; exact H) | (simp only [hji9] at H ⊢; exact H)
        (try rw [hji9] at A3)
        (try rw [hji9] at A5)
        (try rw [hji9] at A7)
        by_cases c10 : 0 ≤ (ji9)
        · rw [if_pos c10] at H
          have c10b0 := eq_true c10
          try (have c10n := c10; simp only [ByteArray.size_append, ByteArray.size_extract, Nat.min_self] at c10n; (repeat (rw [Nat.min_eq_left] at c10n; rotate_left; (refine Int.toNat_le.2 ?_; exact of_decide_eq_true (by first | (with_reducible assumption) | assumption)))); (try simp only [Nat.sub_zero] at c10n); (first | have c10nf := eq_false (Nat.not_lt.2 c10n) | have c10nf := eq_false (Int.not_lt.2 c10n) | skip); replace c10n := eq_true c10n)
          have c10b1 : decide (0 ≤ (ji9)) = true := decide_eq_true c10
          clear c10
          by_cases c11 : (ji9) ≤ (t169.size : Int)
          · rw [if_pos c11] at H
            have c11b0 := eq_true c11
            try (have c11n := c11; simp only [ByteArray.size_append, ByteArray.size_extract, Nat.min_self] at c11n; (repeat (rw [Nat.min_eq_left] at c11n; rotate_left; (refine Int.toNat_le.2 ?_; exact of_decide_eq_true (by first | (with_reducible assumption) | assumption)))); (try simp only [Nat.sub_zero] at c11n); (first | have c11nf := eq_false (Nat.not_lt.2 c11n) | have c11nf := eq_false (Int.not_lt.2 c11n) | skip); replace c11n := eq_true c11n)
            have c11b1 : decide ((ji9) ≤ (t169.size : Int)) = true := decide_eq_true c11
            clear c11
            replace H := Option.bind_eq_some_iff.mp H
            obtain ⟨⟨t170, t171⟩, A120, H⟩ := H
            replace H : (emendatelaw51_WalTruncation.l0 k l0 ji9 t170 t171 0 0) = some r := H
            have A12 := Aside0.mk A120
            clear A120
            have H' := Aside0.mk H
            clear H
            go_enter Try.func6, Try.ntmps6
            go_wp2_with (first | ((with_reducible refine gate_callee (f := 10) rfl ?_); refine goesL_ (some 11) rfl rfl Try.func10 (by kernel_rfl) rfl #[] rfl (by (try simp only [List.map_toArray, List.map_cons, List.map_nil]); first | done | rfl | (simp only [List.length_drop, List.length_take]; rfl)) ?_; (with_reducible refine (emendatelaw51_awake.calls k  true _ A3.out).mono ?_); rintro e w13 ⟨rfl, hb⟩; refine ⟨_, rfl, ?_⟩; have n0_ := Aside0.mk (below_step (by repeat (first | (with_reducible first | exact HB.out | apply below_alloc | apply pw_below_drewN | apply below_drew1) | exact HB.out)) hb); clear HB; have HB := n0_; clear n0_; (try clear hb); (try clear hb2); (try clear hk); (try clear hi)) | ((with_reducible refine gate_callee (f := 11) rfl ?_); refine goesL_ (some 14) rfl rfl Try.func11 (by kernel_rfl) rfl #[.slice A0 l0.length c0] rfl (by (try simp only [List.map_toArray, List.map_cons, List.map_nil]); first | done | rfl | (simp only [List.length_drop, List.length_take]; rfl)) ?_; (with_reducible refine (emendateref51_Few.calls k _ _ l0 true _ ?side1 ?side2 A5.out).mono ?_); (case side1 => repeat (first | exact (Kd.C_below HR0.out HB.out) | (with_reducible refine Kd.C_alloc ?_ _) | (with_reducible refine Kd.C_drewN ?_ _) | (with_reducible refine Kd.C_drew ?_))); (case side2 => exact HC0.out); rintro e w' ⟨rfl, ⟨nd, rfl⟩⟩; refine ⟨_, rfl, ?_⟩) | ((with_reducible refine gate_callee (f := 12) rfl ?_); refine goesL_ (some 17) rfl rfl Try.func12 (by kernel_rfl) rfl #[.slice A0 l0.length c0] rfl (by (try simp only [List.map_toArray, List.map_cons, List.map_nil]); first | done | rfl | (simp only [List.length_drop, List.length_take]; rfl)) ?_; (with_reducible refine (wal_Encode.calls _ _ l0 t169 _ ?side1 ?side2 A7.out).mono ?_); (case side1 => repeat (first | exact (Kd.C_below HR0.out (by repeat (first | (with_reducible first | exact HB.out | apply below_alloc | apply pw_below_drewN | apply below_drew1) | exact HB.out))) | (with_reducible refine Kd.C_alloc ?_ _) | (with_reducible refine Kd.C_drewN ?_ _) | (with_reducible refine Kd.C_drew ?_))); (case side2 => exact HC0.out); rintro e w14 ⟨rfl, hb⟩; refine ⟨_, rfl, ?_⟩; have n0_ := Aside0.mk (below_step (by repeat (first | (with_reducible first | exact HB.out | apply below_alloc | apply pw_below_drewN | apply below_drew1) | exact HB.out)) hb); clear HB; have HB := n0_; clear n0_; (try clear hb); (try clear hb2); (try clear hk); (try clear hi)) | ((with_reducible refine gate_callee (f := 16) rfl ?_); refine goesL_ (some 28) rfl rfl Try.func16 (by kernel_rfl) rfl #[.string (t169.extract 0 ((ji9) : Int).toNat)] rfl (by (try simp only [List.map_toArray, List.map_cons, List.map_nil]); first | done | (simp only [hji9]; rfl) | rfl | (simp only [List.length_drop, List.length_take]; rfl)) ?_; (with_reducible refine (wal_Decode.calls k (t169.extract 0 ((ji9) : Int).toNat) t170 t171 _ A12.out).mono ?_); rintro e w15 ⟨v172, rfl, ho0, hb⟩; refine ⟨_, rfl, ?_⟩; have n0_ := Aside0.mk (Kd.R_lower ho0 (below_size (by repeat (first | (with_reducible first | exact HB.out | apply below_alloc | apply pw_below_drewN | apply below_drew1) | exact HB.out)))); have n1_ := Aside0.mk (below_step (by repeat (first | (with_reducible first | exact HB.out | apply below_alloc | apply pw_below_drewN | apply below_drew1) | exact HB.out)) hb); clear HB; have HO173 := n0_; have HB := n1_; clear n0_ n1_; (try clear hb); (try clear hb2); (try clear hk); (try clear hi); (try clear ho0)))
            go_loopg [9, 10] k (fun kq v9 v10 w' => ∃ (x9_1 : Int) (x10_1 : Int), v9 = .int .i64 x9_1 ∧ v10 = .int .i64 x10_1 ∧ Aside0 (emendatelaw51_WalTruncation.l0 kq l0 ji9 t170 t171 x9_1 x10_1 = some r) ∧ Aside0 (kq ≤ k) ∧ Aside0 (Kd.R Kd.string 9 w' w.heap.size (fun _ => True) v172 t170) ∧ Aside0 (Below w.heap.size w w'))
            case atStart => exact ⟨(0), (0), (by first | rfl | (simp; done) | (simp [*]; done)), (by first | rfl | (simp; done) | (simp [*]; done)), H', ⟨Nat.le_refl _⟩, ⟨by (with_reducible repeat (first | apply Kd.R_alloc | apply Kd.R_drewN | apply Kd.R_drew)); exact HO173.out⟩, ⟨by repeat (first | (with_reducible first | exact HB.out | apply below_alloc | apply pw_below_drewN | apply below_drew1) | exact HB.out)⟩⟩
            case round =>
              clear H'
              try clear c1
              try clear p2
              try clear c4
              try clear c6
              try clear p6
              try clear c8
              try clear c8b0
              try clear c8b1
              try clear c10
              try clear c10b0
              try clear c10b1
              try clear c11
              try clear c11b0
              try clear c11b1
              try clear c12
              obtain ⟨x9_1, x10_1, rfl, rfl, HA, HK1, HO_7, HB⟩ := hrel
              cases gk with
              | zero => exact absurd HA.out (by simp [emendatelaw51_WalTruncation.l0])
              | succ k1 =>
                have H := HA.out
                clear HA
                simp only [emendatelaw51_WalTruncation.l0] at H
                by_cases c16 : x9_1 < (l0.length : Int)
                · rw [if_pos c16] at H
                  have c16b0 : decide (x9_1 < (l0.length : Int)) = true := decide_eq_true c16
                  clear c16
                  by_cases c17 : 0 ≤ x9_1
                  · rw [if_pos c17] at H
                    have c17b0 : decide (0 ≤ x9_1) = true := decide_eq_true c17
                    clear c17
                    by_cases c18 : (wrap64 ((wrap64 (x10_1 + 8)) + ((rdOf ByteArray.empty l0 x9_1).size : Int))) ≤ ji9
                    · rw [if_pos c18] at H
                      have c18b0 : decide ((wrap64 ((wrap64 (x10_1 + 8)) + ((rdOf ByteArray.empty l0 x9_1).size : Int))) ≤ ji9) = true := decide_eq_true c18
                      clear c18
                      have H' := Aside0.mk H
                      clear H
                      have p174 : 0 ≤ (x9_1 : Int) := of_decide_eq_true (by first | (with_reducible assumption) | assumption)
                      have q174 : x9_1 < (l0.length : Int) := of_decide_eq_true (by first | (with_reducible assumption) | assumption)
                      obtain ⟨ad174, e174, hx174_0⟩ := Kd.at_string HR0.out x9_1 p174 q174
                      cases e174
                      replace hx174_0 := (HB.out.cell (World.block_lt_of_cell? w _ hx174_0)).trans hx174_0
                      replace p174 := eq_true p174
                      replace q174 := eq_true q174
                      have p175 : 0 ≤ (x9_1 : Int) := of_decide_eq_true (by first | (with_reducible assumption) | assumption)
                      have q175 : x9_1 < (l0.length : Int) := of_decide_eq_true (by first | (with_reducible assumption) | assumption)
                      obtain ⟨ad175, e175, hx175_0⟩ := Kd.at_string HR0.out x9_1 p175 q175
                      obtain rfl : ad174 = ad175 := (by injection e175)
                      replace hx175_0 := (HB.out.cell (World.block_lt_of_cell? w _ hx175_0)).trans hx175_0
                      replace p175 := eq_true p175
                      replace q175 := eq_true q175
                      go_wp2
                      go_roundg k1
                      case measure => have := HK1.out; omega
                      case rel => exact ⟨(wrap64 (x9_1 + 1)), (wrap64 ((wrap64 (x10_1 + 8)) + ((rdOf ByteArray.empty l0 x9_1).size : Int))), (by first | rfl | (simp; done) | (simp [*]; done)), (by first | rfl | (simp; done) | (simp [*]; done)), H', ⟨by have := HK1.out; omega⟩, ⟨by (with_reducible repeat (first | apply Kd.R_alloc | apply Kd.R_drewN | apply Kd.R_drew)); exact HO_7.out⟩, ⟨by repeat (first | (with_reducible first | exact HB.out | apply below_alloc | apply pw_below_drewN | apply below_drew1) | exact HB.out)⟩⟩
                    · rw [if_neg c18] at H
                      have c18b0 : decide ((wrap64 ((wrap64 (x10_1 + 8)) + ((rdOf ByteArray.empty l0 x9_1).size : Int))) ≤ ji9) = false := decide_eq_false c18
                      clear c18
                      have c19b0 := eq_true (of_decide_eq_true (by first | (with_reducible assumption) | assumption) : 0 ≤ x9_1)
                      by_cases c20 : x9_1 ≤ (l0.length : Int)
                      · rw [if_pos c20] at H
                        have c20b0 := eq_true c20
                        try (have c20n := c20; simp only [ByteArray.size_append, ByteArray.size_extract, Nat.min_self] at c20n; (repeat (rw [Nat.min_eq_left] at c20n; rotate_left; (refine Int.toNat_le.2 ?_; exact of_decide_eq_true (by first | (with_reducible assumption) | assumption)))); (try simp only [Nat.sub_zero] at c20n); (first | have c20nf := eq_false (Nat.not_lt.2 c20n) | have c20nf := eq_false (Int.not_lt.2 c20n) | skip); replace c20n := eq_true c20n)
                        have c20b1 : decide (x9_1 ≤ (l0.length : Int)) = true := decide_eq_true c20
                        clear c20
                        replace H := Option.bind_eq_some_iff.mp H
                        obtain ⟨t177, A210, H⟩ := H
                        replace H : (if t177 = true then (some (t171 == x10_1)) else (some false)) = some r := H
                        have A21 := Aside0.mk A210
                        clear A210
                        by_cases c22 : t177 = true
                        · subst c22
                          have H1 : (some (t171 == x10_1)) = some r := by rw [if_pos rfl] at H; exact H
                          clear H
                          have H := H1
                          clear H1
                          obtain rfl := Option.some.inj H
                          have p174 : 0 ≤ (x9_1 : Int) := of_decide_eq_true (by first | (with_reducible assumption) | assumption)
                          have q174 : x9_1 < (l0.length : Int) := of_decide_eq_true (by first | (with_reducible assumption) | assumption)
                          obtain ⟨ad174, e174, hx174_0⟩ := Kd.at_string HR0.out x9_1 p174 q174
                          cases e174
                          replace hx174_0 := (HB.out.cell (World.block_lt_of_cell? w _ hx174_0)).trans hx174_0
                          replace p174 := eq_true p174
                          replace q174 := eq_true q174
                          obtain ⟨i023, hi023, _, hsz23, _⟩ := info_parts info9
                          obtain ⟨hcut23, hA23, hC23⟩ := print_take_of (P := Try.prog) Value.string (⟨#[]⟩ : ByteArray) 22 9 .i64 Try.underlying22 hi023 hsz23 (some ad174) c0 l0 x9_1 (of_decide_eq_true (by first | (with_reducible assumption) | assumption)) (of_decide_eq_true (by first | (with_reducible assumption) | assumption)) HC0.out
                          have HR176 := Aside0.mk (Kd.C_of_reads (h1 := fun _ => rfl) (hA23 _ (Kd.reads_of_C HR0.out)))
                          have HC176 := Aside0.mk hC23
                          clear hA23 hC23 hi023 hsz23
                          obtain ⟨Ao24, co24, eo24⟩ := Kd.R_slice HO_7.out
                          subst eo24
                          go_wp2_with (first | ((with_reducible refine gate_callee (f := 18) rfl ?_); refine goesL_ (some 61) rfl rfl Try.func18 (by kernel_rfl) rfl #[.slice Ao24 t170.length co24, .slice (some ad174) (l0.take (x9_1 : Int).toNat).length c0] rfl (by (try simp only [List.map_toArray, List.map_cons, List.map_nil]); first | done | (rw [show (l0.take (x9_1 : Int).toNat).length = x9_1.toNat from (by rw [List.length_take]; have h_ : (x9_1 : Int) ≤ (l0.length : Int) := of_decide_eq_true (by first | (with_reducible assumption) | assumption); omega)] <;> rfl) | rfl | (simp only [List.length_drop, List.length_take]; rfl)) ?_; (with_reducible refine (emendateref51_Same.calls k1 _ _ t170 _ _ (l0.take (x9_1 : Int).toNat) true _ ?side1 ?side2 ?side3 ?side4 A21.out).mono ?_); (case side1 => repeat (first | exact (Kd.R_reads' HO_7.out).2.2 | (with_reducible refine Kd.C_alloc ?_ _) | (with_reducible refine Kd.C_drewN ?_ _) | (with_reducible refine Kd.C_drew ?_))); (case side2 => exact (Kd.R_reads' HO_7.out).2.1); (case side3 => repeat (first | exact (Kd.C_below HR176.out HB.out) | (with_reducible refine Kd.C_alloc ?_ _) | (with_reducible refine Kd.C_drewN ?_ _) | (with_reducible refine Kd.C_drew ?_))); (case side4 => exact HC176.out); rintro e w' ⟨rfl, ⟨nd, rfl⟩⟩; refine ⟨_, rfl, ?_⟩))
                          go_ret
                          exact ⟨by first | rfl | (simp [errW_none, errW_some] <;> rfl) | (simp only [← hji9]; first | rfl | (simp [errW_none, errW_some] <;> rfl)) | (simp [*, errW_none, errW_some] <;> rfl), by repeat (first | (with_reducible first | exact HB.out | apply below_alloc | apply pw_below_drewN | apply below_drew1) | exact HB.out)⟩
                        · replace c22 := Bool.eq_false_iff.mpr c22
                          subst c22
                          have H1 : (some false) = some r := by rw [if_neg (show ¬ (false = true) by decide)] at H; exact H
                          clear H
                          have H := H1
                          clear H1
                          obtain rfl := Option.some.inj H
                          have p174 : 0 ≤ (x9_1 : Int) := of_decide_eq_true (by first | (with_reducible assumption) | assumption)
                          have q174 : x9_1 < (l0.length : Int) := of_decide_eq_true (by first | (with_reducible assumption) | assumption)
                          obtain ⟨ad174, e174, hx174_0⟩ := Kd.at_string HR0.out x9_1 p174 q174
                          cases e174
                          replace hx174_0 := (HB.out.cell (World.block_lt_of_cell? w _ hx174_0)).trans hx174_0
                          replace p174 := eq_true p174
                          replace q174 := eq_true q174
                          obtain ⟨i025, hi025, _, hsz25, _⟩ := info_parts info9
                          obtain ⟨hcut25, hA25, hC25⟩ := print_take_of (P := Try.prog) Value.string (⟨#[]⟩ : ByteArray) 22 9 .i64 Try.underlying22 hi025 hsz25 (some ad174) c0 l0 x9_1 (of_decide_eq_true (by first | (with_reducible assumption) | assumption)) (of_decide_eq_true (by first | (with_reducible assumption) | assumption)) HC0.out
                          have HR176 := Aside0.mk (Kd.C_of_reads (h1 := fun _ => rfl) (hA25 _ (Kd.reads_of_C HR0.out)))
                          have HC176 := Aside0.mk hC25
                          clear hA25 hC25 hi025 hsz25
                          obtain ⟨Ao26, co26, eo26⟩ := Kd.R_slice HO_7.out
                          subst eo26
                          go_wp2_with (first | ((with_reducible refine gate_callee (f := 18) rfl ?_); refine goesL_ (some 61) rfl rfl Try.func18 (by kernel_rfl) rfl #[.slice Ao26 t170.length co26, .slice (some ad174) (l0.take (x9_1 : Int).toNat).length c0] rfl (by (try simp only [List.map_toArray, List.map_cons, List.map_nil]); first | done | (rw [show (l0.take (x9_1 : Int).toNat).length = x9_1.toNat from (by rw [List.length_take]; have h_ : (x9_1 : Int) ≤ (l0.length : Int) := of_decide_eq_true (by first | (with_reducible assumption) | assumption); omega)] <;> rfl) | rfl | (simp only [List.length_drop, List.length_take]; rfl)) ?_; (with_reducible refine (emendateref51_Same.calls k1 _ _ t170 _ _ (l0.take (x9_1 : Int).toNat) false _ ?side1 ?side2 ?side3 ?side4 A21.out).mono ?_); (case side1 => repeat (first | exact (Kd.R_reads' HO_7.out).2.2 | (with_reducible refine Kd.C_alloc ?_ _) | (with_reducible refine Kd.C_drewN ?_ _) | (with_reducible refine Kd.C_drew ?_))); (case side2 => exact (Kd.R_reads' HO_7.out).2.1); (case side3 => repeat (first | exact (Kd.C_below HR176.out HB.out) | (with_reducible refine Kd.C_alloc ?_ _) | (with_reducible refine Kd.C_drewN ?_ _) | (with_reducible refine Kd.C_drew ?_))); (case side4 => exact HC176.out); rintro e w' ⟨rfl, ⟨nd, rfl⟩⟩; refine ⟨_, rfl, ?_⟩))
                          go_ret
                          exact ⟨by first | rfl | (simp [errW_none, errW_some] <;> rfl) | (simp only [← hji9]; first | rfl | (simp [errW_none, errW_some] <;> rfl)) | (simp [*, errW_none, errW_some] <;> rfl), by repeat (first | (with_reducible first | exact HB.out | apply below_alloc | apply pw_below_drewN | apply below_drew1) | exact HB.out)⟩
                      · rw [if_neg c20] at H
                        exact absurd H (by simp)
                  · rw [if_neg c17] at H
                    exact absurd H (by simp)
                · rw [if_neg c16] at H
                  have c16b0 : decide (x9_1 < (l0.length : Int)) = false := decide_eq_false c16
                  clear c16
                  by_cases c27 : 0 ≤ x9_1
                  · rw [if_pos c27] at H
                    have c27b0 := eq_true c27
                    try (have c27n := c27; simp only [ByteArray.size_append, ByteArray.size_extract, Nat.min_self] at c27n; (repeat (rw [Nat.min_eq_left] at c27n; rotate_left; (refine Int.toNat_le.2 ?_; exact of_decide_eq_true (by first | (with_reducible assumption) | assumption)))); (try simp only [Nat.sub_zero] at c27n); (first | have c27nf := eq_false (Nat.not_lt.2 c27n) | have c27nf := eq_false (Int.not_lt.2 c27n) | skip); replace c27n := eq_true c27n)
                    have c27b1 : decide (0 ≤ x9_1) = true := decide_eq_true c27
                    clear c27
                    by_cases c28 : x9_1 ≤ (l0.length : Int)
                    · rw [if_pos c28] at H
                      have c28b0 := eq_true c28
                      try (have c28n := c28; simp only [ByteArray.size_append, ByteArray.size_extract, Nat.min_self] at c28n; (repeat (rw [Nat.min_eq_left] at c28n; rotate_left; (refine Int.toNat_le.2 ?_; exact of_decide_eq_true (by first | (with_reducible assumption) | assumption)))); (try simp only [Nat.sub_zero] at c28n); (first | have c28nf := eq_false (Nat.not_lt.2 c28n) | have c28nf := eq_false (Int.not_lt.2 c28n) | skip); replace c28n := eq_true c28n)
                      have c28b1 : decide (x9_1 ≤ (l0.length : Int)) = true := decide_eq_true c28
                      clear c28
                      replace H := Option.bind_eq_some_iff.mp H
                      obtain ⟨t179, A290, H⟩ := H
                      replace H : (if t179 = true then (some (t171 == x10_1)) else (some false)) = some r := H
                      have A29 := Aside0.mk A290
                      clear A290
                      by_cases c30 : t179 = true
                      · subst c30
                        have H1 : (some (t171 == x10_1)) = some r := by rw [if_pos rfl] at H; exact H
                        clear H
                        have H := H1
                        clear H1
                        obtain rfl := Option.some.inj H
                        obtain ⟨i031, hi031, _, hsz31, _⟩ := info_parts info9
                        obtain ⟨hcut31, hA31, hC31⟩ := print_take_of (P := Try.prog) Value.string (⟨#[]⟩ : ByteArray) 22 9 .i64 Try.underlying22 hi031 hsz31 A0 c0 l0 x9_1 (of_decide_eq_true (by first | (with_reducible assumption) | assumption)) (of_decide_eq_true (by first | (with_reducible assumption) | assumption)) HC0.out
                        have HR178 := Aside0.mk (Kd.C_of_reads (h1 := fun _ => rfl) (hA31 _ (Kd.reads_of_C HR0.out)))
                        have HC178 := Aside0.mk hC31
                        clear hA31 hC31 hi031 hsz31
                        obtain ⟨Ao32, co32, eo32⟩ := Kd.R_slice HO_7.out
                        subst eo32
                        go_wp2_with (first | ((with_reducible refine gate_callee (f := 18) rfl ?_); refine goesL_ (some 61) rfl rfl Try.func18 (by kernel_rfl) rfl #[.slice Ao32 t170.length co32, .slice A0 (l0.take (x9_1 : Int).toNat).length c0] rfl (by (try simp only [List.map_toArray, List.map_cons, List.map_nil]); first | done | (rw [show (l0.take (x9_1 : Int).toNat).length = x9_1.toNat from (by rw [List.length_take]; have h_ : (x9_1 : Int) ≤ (l0.length : Int) := of_decide_eq_true (by first | (with_reducible assumption) | assumption); omega)] <;> rfl) | rfl | (simp only [List.length_drop, List.length_take]; rfl)) ?_; (with_reducible refine (emendateref51_Same.calls k1 _ _ t170 _ _ (l0.take (x9_1 : Int).toNat) true _ ?side1 ?side2 ?side3 ?side4 A29.out).mono ?_); (case side1 => repeat (first | exact (Kd.R_reads' HO_7.out).2.2 | (with_reducible refine Kd.C_alloc ?_ _) | (with_reducible refine Kd.C_drewN ?_ _) | (with_reducible refine Kd.C_drew ?_))); (case side2 => exact (Kd.R_reads' HO_7.out).2.1); (case side3 => repeat (first | exact (Kd.C_below HR178.out HB.out) | (with_reducible refine Kd.C_alloc ?_ _) | (with_reducible refine Kd.C_drewN ?_ _) | (with_reducible refine Kd.C_drew ?_))); (case side4 => exact HC178.out); rintro e w' ⟨rfl, ⟨nd, rfl⟩⟩; refine ⟨_, rfl, ?_⟩))
                        go_ret
                        exact ⟨by first | rfl | (simp [errW_none, errW_some] <;> rfl) | (simp only [← hji9]; first | rfl | (simp [errW_none, errW_some] <;> rfl)) | (simp [*, errW_none, errW_some] <;> rfl), by repeat (first | (with_reducible first | exact HB.out | apply below_alloc | apply pw_below_drewN | apply below_drew1) | exact HB.out)⟩
                      · replace c30 := Bool.eq_false_iff.mpr c30
                        subst c30
                        have H1 : (some false) = some r := by rw [if_neg (show ¬ (false = true) by decide)] at H; exact H
                        clear H
                        have H := H1
                        clear H1
                        obtain rfl := Option.some.inj H
                        obtain ⟨i033, hi033, _, hsz33, _⟩ := info_parts info9
                        obtain ⟨hcut33, hA33, hC33⟩ := print_take_of (P := Try.prog) Value.string (⟨#[]⟩ : ByteArray) 22 9 .i64 Try.underlying22 hi033 hsz33 A0 c0 l0 x9_1 (of_decide_eq_true (by first | (with_reducible assumption) | assumption)) (of_decide_eq_true (by first | (with_reducible assumption) | assumption)) HC0.out
                        have HR178 := Aside0.mk (Kd.C_of_reads (h1 := fun _ => rfl) (hA33 _ (Kd.reads_of_C HR0.out)))
                        have HC178 := Aside0.mk hC33
                        clear hA33 hC33 hi033 hsz33
                        obtain ⟨Ao34, co34, eo34⟩ := Kd.R_slice HO_7.out
                        subst eo34
                        go_wp2_with (first | ((with_reducible refine gate_callee (f := 18) rfl ?_); refine goesL_ (some 61) rfl rfl Try.func18 (by kernel_rfl) rfl #[.slice Ao34 t170.length co34, .slice A0 (l0.take (x9_1 : Int).toNat).length c0] rfl (by (try simp only [List.map_toArray, List.map_cons, List.map_nil]); first | done | (rw [show (l0.take (x9_1 : Int).toNat).length = x9_1.toNat from (by rw [List.length_take]; have h_ : (x9_1 : Int) ≤ (l0.length : Int) := of_decide_eq_true (by first | (with_reducible assumption) | assumption); omega)] <;> rfl) | rfl | (simp only [List.length_drop, List.length_take]; rfl)) ?_; (with_reducible refine (emendateref51_Same.calls k1 _ _ t170 _ _ (l0.take (x9_1 : Int).toNat) false _ ?side1 ?side2 ?side3 ?side4 A29.out).mono ?_); (case side1 => repeat (first | exact (Kd.R_reads' HO_7.out).2.2 | (with_reducible refine Kd.C_alloc ?_ _) | (with_reducible refine Kd.C_drewN ?_ _) | (with_reducible refine Kd.C_drew ?_))); (case side2 => exact (Kd.R_reads' HO_7.out).2.1); (case side3 => repeat (first | exact (Kd.C_below HR178.out HB.out) | (with_reducible refine Kd.C_alloc ?_ _) | (with_reducible refine Kd.C_drewN ?_ _) | (with_reducible refine Kd.C_drew ?_))); (case side4 => exact HC178.out); rintro e w' ⟨rfl, ⟨nd, rfl⟩⟩; refine ⟨_, rfl, ?_⟩))
                        go_ret
                        exact ⟨by first | rfl | (simp [errW_none, errW_some] <;> rfl) | (simp only [← hji9]; first | rfl | (simp [errW_none, errW_some] <;> rfl)) | (simp [*, errW_none, errW_some] <;> rfl), by repeat (first | (with_reducible first | exact HB.out | apply below_alloc | apply pw_below_drewN | apply below_drew1) | exact HB.out)⟩
                    · rw [if_neg c28] at H
                      exact absurd H (by simp)
                  · rw [if_neg c27] at H
                    exact absurd H (by simp)
          · rw [if_neg c11] at H
            exact absurd H (by simp)
        · rw [if_neg c10] at H
          exact absurd H (by simp)
    · replace c6 := Bool.eq_false_iff.mpr c6
      subst c6
      have H1 : (some true) = some r := by rw [if_neg (show ¬ (false = true) by decide)] at H; exact H
      clear H
      have H := H1
      clear H1
      obtain rfl := Option.some.inj H
      go_enter Try.func6, Try.ntmps6
      go_wp2_with (first | ((with_reducible refine gate_callee (f := 10) rfl ?_); refine goesL_ (some 11) rfl rfl Try.func10 (by kernel_rfl) rfl #[] rfl (by (try simp only [List.map_toArray, List.map_cons, List.map_nil]); first | done | rfl | (simp only [List.length_drop, List.length_take]; rfl)) ?_; (with_reducible refine (emendatelaw51_awake.calls k  true _ A3.out).mono ?_); rintro e w35 ⟨rfl, hb⟩; refine ⟨_, rfl, ?_⟩; have n0_ := Aside0.mk (below_step (by repeat (first | (with_reducible first | exact HB.out | apply below_alloc | apply pw_below_drewN | apply below_drew1) | exact HB.out)) hb); clear HB; have HB := n0_; clear n0_; (try clear hb); (try clear hb2); (try clear hk); (try clear hi)) | ((with_reducible refine gate_callee (f := 11) rfl ?_); refine goesL_ (some 14) rfl rfl Try.func11 (by kernel_rfl) rfl #[.slice A0 l0.length c0] rfl (by (try simp only [List.map_toArray, List.map_cons, List.map_nil]); first | done | rfl | (simp only [List.length_drop, List.length_take]; rfl)) ?_; (with_reducible refine (emendateref51_Few.calls k _ _ l0 false _ ?side1 ?side2 A5.out).mono ?_); (case side1 => repeat (first | exact (Kd.C_below HR0.out HB.out) | (with_reducible refine Kd.C_alloc ?_ _) | (with_reducible refine Kd.C_drewN ?_ _) | (with_reducible refine Kd.C_drew ?_))); (case side2 => exact HC0.out); rintro e w' ⟨rfl, ⟨nd, rfl⟩⟩; refine ⟨_, rfl, ?_⟩))
      go_ret
      exact ⟨by first | rfl | (simp [errW_none, errW_some] <;> rfl) | (simp [*, errW_none, errW_some] <;> rfl), by repeat (first | (with_reducible first | exact HB.out | apply below_alloc | apply pw_below_drewN | apply below_drew1) | exact HB.out)⟩
  · replace c4 := Bool.eq_false_iff.mpr c4
    subst c4
    have H1 : (some false) = some r := by rw [if_neg (show ¬ (false = true) by decide)] at H; exact H
    clear H
    have H := H1
    clear H1
    obtain rfl := Option.some.inj H
    go_enter Try.func6, Try.ntmps6
    go_wp2_with (first | ((with_reducible refine gate_callee (f := 10) rfl ?_); refine goesL_ (some 11) rfl rfl Try.func10 (by kernel_rfl) rfl #[] rfl (by (try simp only [List.map_toArray, List.map_cons, List.map_nil]); first | done | rfl | (simp only [List.length_drop, List.length_take]; rfl)) ?_; (with_reducible refine (emendatelaw51_awake.calls k  false _ A3.out).mono ?_); rintro e w36 ⟨rfl, hb⟩; refine ⟨_, rfl, ?_⟩; have n0_ := Aside0.mk (below_step (by repeat (first | (with_reducible first | exact HB.out | apply below_alloc | apply pw_below_drewN | apply below_drew1) | exact HB.out)) hb); clear HB; have HB := n0_; clear n0_; (try clear hb); (try clear hb2); (try clear hk); (try clear hi)))
    go_ret
    exact ⟨by first | rfl | (simp [errW_none, errW_some] <;> rfl) | (simp [*, errW_none, errW_some] <;> rfl), by repeat (first | (with_reducible first | exact HB.out | apply below_alloc | apply pw_below_drewN | apply below_drew1) | exact HB.out)⟩

end Go.Proofs.Ytfiefplalpjlpaa.PA
