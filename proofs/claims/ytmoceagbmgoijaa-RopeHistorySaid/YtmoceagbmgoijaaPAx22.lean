/- A part of a law as a program wrote it (wip/myprint.py, over the print of the kit): a function, what its call does, or the row of a law; Lean checks it. -/
import Derived.Test.YtmoceagbmgoijaaPAx0
namespace Go.Proofs.Ytmoceagbmgoijaa.PA
open Go.RowKit Go.Proofs.YtmoceagbmgoijaaW.PrintWords Go.Proofs.YtmoceagbmgoijaaW.PrintLast Go.Proofs.YtmoceagbmgoijaaW.PrintMore
attribute [local go_sem] max2_int min2_int max_two min_two max_three min_three max_four min_four   -- for this text's walks alone
set_option linter.unusedVariables false
set_option linter.unusedSimpArgs false

/-! ### emendateref01_Bound: function 25 -/
def emendateref01_Bound.l0 : Nat → Int → Int → Option (Int)
  | 0, _, _ => none
  | k + 1, x3, x4 => if 0 ≤ (IntKind.u64.wrap (x4)) then (if (shl .i64 1 (IntKind.u64.wrap (x4))) < x3 then (emendateref01_Bound.l0 k x3 (wrap64 (x4 + 1))) else (some (wrap64 ((wrap64 (2 * x4)) + 2)))) else (none)
def emendateref01_Bound.f (k : Nat) (a0 : Int) : Option (Int) := if a0 ≤ 64 then (some 0) else (emendateref01_Bound.l0 k (wrap64 (Int.tdiv (wrap64 (a0 + 63)) 64)) 0)
theorem emendateref01_Bound.mono_l : ∀ k, (∀ y0 y1, LeO (emendateref01_Bound.l0 k y0 y1) (emendateref01_Bound.l0 (k + 1) y0 y1))
  | 0 => fun _ _ r h => by simp [emendateref01_Bound.l0] at h
  | k + 1 => by
    have ih0 := emendateref01_Bound.mono_l k
    · intro y0 y1
      unfold emendateref01_Bound.l0
      repeat' first
      | (with_reducible exact ih0 _ _)
      | (with_reducible exact LeO.refl _)
      | (with_reducible exact LeO.none _)
      | (with_reducible refine LeO.ite ?_ ?_)
      | (with_reducible refine LeO.bind ?_ (fun _ => ?_))
      | exact ih0 _ _
      | exact LeO.none _
      | refine LeO.ite ?_ ?_
      | refine LeO.bind ?_ (fun _ => ?_)
theorem emendateref01_Bound.mono : ∀ a0 k, LeO (emendateref01_Bound.f k a0) (emendateref01_Bound.f (k + 1) a0) := by
  intro a0 k
  have ih0 := emendateref01_Bound.mono_l k
  unfold emendateref01_Bound.f
  repeat' first
      | (with_reducible exact ih0 _ _)
      | (with_reducible exact LeO.refl _)
      | (with_reducible exact LeO.none _)
      | (with_reducible refine LeO.ite ?_ ?_)
      | (with_reducible refine LeO.bind ?_ (fun _ => ?_))
      | exact ih0 _ _
      | exact LeO.none _
      | refine LeO.ite ?_ ?_
      | refine LeO.bind ?_ (fun _ => ?_)
set_option maxHeartbeats 8000000 in
set_option maxRecDepth 100000 in
theorem emendateref01_Bound.calls (k : Nat) (a0 : Int) (r : Int) (w : World) (h : emendateref01_Bound.f k a0 = some r) :
    Calls Try.prog 25 #[.int .i64 a0] w fun e w' => e = .returned (.int .i64 r) ∧ Drawn0 w w' := by
  have H : (if a0 ≤ 64 then (some 0) else (emendateref01_Bound.l0 k (wrap64 (Int.tdiv (wrap64 (a0 + 63)) 64)) 0)) = some r := h
  clear h
  by_cases c2 : a0 ≤ 64
  · rw [if_pos c2] at H
    have c2b0 : decide (a0 ≤ 64) = true := decide_eq_true c2
    clear c2
    obtain rfl := Option.some.inj H
    go_enter Try.func25, Try.ntmps25
    go_wp2
    go_ret
    exact ⟨by first | rfl | (simp; done) | (simp [*]; done), by repeat (first | exact Drawn0.refl _ | apply Drawn0.step)⟩
  · rw [if_neg c2] at H
    have c2b0 : decide (a0 ≤ 64) = false := decide_eq_false c2
    clear c2
    have H' := Aside0.mk H
    clear H
    go_enter Try.func25, Try.ntmps25
    go_wp2
    go_loopg [4] k (fun kq v4 w' => ∃ (x4_1 : Int), v4 = .int .i64 x4_1 ∧ Aside0 (emendateref01_Bound.l0 kq (wrap64 (Int.tdiv (wrap64 (a0 + 63)) 64)) x4_1 = some r) ∧ Aside0 (kq ≤ k) ∧ Drawn0 w w')
    case atStart => exact ⟨(0), (by first | rfl | (simp; done) | (simp [*]; done)), H', ⟨Nat.le_refl _⟩, by repeat (first | exact Drawn0.refl _ | apply Drawn0.step)⟩
    case round =>
      clear H'
      try clear c2
      try clear c2b0
      try clear p2
      obtain ⟨x4_1, rfl, HA, HK1, ⟨m1, rfl⟩⟩ := hrel
      cases gk with
      | zero => exact absurd HA.out (by simp [emendateref01_Bound.l0])
      | succ k1 =>
        have H := HA.out
        clear HA
        simp only [emendateref01_Bound.l0] at H
        obtain ⟨ji3, hji3⟩ : ∃ j_ : Int, (IntKind.u64.wrap (x4_1)) = j_ := ⟨_, rfl⟩
        replace H : (if 0 ≤ (ji3) then (if (shl .i64 1 (ji3)) < (wrap64 (Int.tdiv (wrap64 (a0 + 63)) 64)) then (emendateref01_Bound.l0 k1 (wrap64 (Int.tdiv (wrap64 (a0 + 63)) 64)) (wrap64 (x4_1 + 1))) else (some (wrap64 ((wrap64 (2 * x4_1)) + 2)))) else (none)) = some r := by first | (rw [hji3] at H; exact H) | (simp only [hji3] at H ⊢; exact H)
        by_cases c4 : 0 ≤ (ji3)
        · rw [if_pos c4] at H
          have c4b0 := eq_true c4
          try (have c4n := c4; simp only [ByteArray.size_append, ByteArray.size_extract, Nat.min_self, Nat.zero_add] at c4n; (repeat (rw [Nat.min_eq_left] at c4n; rotate_left; (refine Int.toNat_le.2 ?_; exact of_decide_eq_true (by first | (with_reducible assumption) | assumption)))); (try simp only [Nat.sub_zero] at c4n); (first | have c4nf := eq_false (Nat.not_lt.2 c4n) | have c4nf := eq_false (Int.not_lt.2 c4n) | skip); replace c4n := eq_true c4n)
          have c4b1 : decide (0 ≤ (ji3)) = true := decide_eq_true c4
          clear c4
          obtain ⟨ji5, hji5⟩ : ∃ j_ : Int, (shl .i64 1 (ji3)) = j_ := ⟨_, rfl⟩
          replace H : (if (ji5) < (wrap64 (Int.tdiv (wrap64 (a0 + 63)) 64)) then (emendateref01_Bound.l0 k1 (wrap64 (Int.tdiv (wrap64 (a0 + 63)) 64)) (wrap64 (x4_1 + 1))) else (some (wrap64 ((wrap64 (2 * x4_1)) + 2)))) = some r := by first | (rw [hji5] at H; exact H) | (simp only [hji5] at H ⊢; exact H)
          have hji5_ : (IntKind.i64.wrap (1 * 2 ^ min (ji3).toNat 64)) = ji5 := hji5
          have hji5z : (ji3) ≤ 64 → (IntKind.i64.wrap (1 * 2 ^ (ji3).toNat)) = ji5 := shl_small hji5
          have hji5u : (IntKind.i64.wrap (2 ^ min (ji3).toNat 64)) = ji5 := by have h_ := hji5_; rw [Int.one_mul] at h_; exact h_
          have hji5v : (ji3) ≤ 64 → (IntKind.i64.wrap (2 ^ (ji3).toNat)) = ji5 := fun hle_ => by have h_ := hji5z hle_; rw [Int.one_mul] at h_; exact h_
          have hji5y : (wrap64 (1 * 2 ^ min (ji3).toNat 64)) = ji5 := (i64_w _).symm.trans hji5_
          have hji5x : (ji3) ≤ 64 → (wrap64 (1 * 2 ^ (ji3).toNat)) = ji5 := fun h_ => (i64_w _).symm.trans (hji5z h_)
          by_cases c6 : (ji5) < (wrap64 (Int.tdiv (wrap64 (a0 + 63)) 64))
          · rw [if_pos c6] at H
            have c6b0 : decide ((ji5) < (wrap64 (Int.tdiv (wrap64 (a0 + 63)) 64))) = true := decide_eq_true c6
            clear c6
            have H' := Aside0.mk H
            clear H
            go_wp2
            go_roundg k1
            case measure => have := HK1.out; omega
            case rel => exact ⟨(wrap64 (x4_1 + 1)), (by first | rfl | (simp; done) | (simp [*]; done)), H', ⟨by have := HK1.out; omega⟩, by repeat (first | exact Drawn0.refl _ | apply Drawn0.step)⟩
          · rw [if_neg c6] at H
            have c6b0 : decide ((ji5) < (wrap64 (Int.tdiv (wrap64 (a0 + 63)) 64))) = false := decide_eq_false c6
            clear c6
            obtain rfl := Option.some.inj H
            go_wp2
            go_ret
            exact ⟨by first | rfl | (simp; done) | (simp only [← hji3, ← hji5] <;> (first | rfl | simp)) | (simp [*]; done), by repeat (first | exact Drawn0.refl _ | apply Drawn0.step)⟩
        · rw [if_neg c4] at H
          exact absurd H (by simp)

end Go.Proofs.Ytmoceagbmgoijaa.PA
