/- A part of a law as a program wrote it (wip/myprint.py, over the print of the kit): a function, what its call does, or the row of a law; Lean checks it. -/
import Derived.Test.YthhgfagnallcnaaPAx0
namespace Go.Proofs.Ythhgfagnallcnaa.PA
open Go.RowKit Go.Proofs.YthhgfagnallcnaaW.PrintWords Go.Proofs.YthhgfagnallcnaaW.PrintLast Go.Proofs.YthhgfagnallcnaaW.PrintMore
attribute [local go_sem] max2_int min2_int max_two min_two max_three min_three max_four min_four   -- for this text's walks alone
set_option linter.unusedVariables false
set_option linter.unusedSimpArgs false

/-! ### textdiff_Hull: function 18 -/
mutual
def textdiff_Hull.j1 : Nat → ByteArray → ByteArray → Int → Option (Int × Int × ByteArray)
  | 0, _, _, _ => none
  | k + 1, x0, x1, x5 => textdiff_Hull.l1 k x0 x1 x5 0
def textdiff_Hull.l1 : Nat → ByteArray → ByteArray → Int → Int → Option (Int × Int × ByteArray)
  | 0, _, _, _, _ => none
  | k + 1, x0, x1, x5, x6 => if x6 < (wrap64 ((x0.size : Int) - x5)) then (if x6 < (wrap64 ((x1.size : Int) - x5)) then (if 0 ≤ (wrap64 ((wrap64 ((x0.size : Int) - 1)) - x6)) then (if (wrap64 ((wrap64 ((x0.size : Int) - 1)) - x6)) < (x0.size : Int) then (if 0 ≤ (wrap64 ((wrap64 ((x1.size : Int) - 1)) - x6)) then (if (wrap64 ((wrap64 ((x1.size : Int) - 1)) - x6)) < (x1.size : Int) then (if (bt x0 (wrap64 ((wrap64 ((x0.size : Int) - 1)) - x6))) = (bt x1 (wrap64 ((wrap64 ((x1.size : Int) - 1)) - x6))) then (textdiff_Hull.l1 k x0 x1 x5 (wrap64 (x6 + 1))) else (if 0 ≤ x5 then (if x5 ≤ (wrap64 ((x1.size : Int) - x6)) then (if (wrap64 ((x1.size : Int) - x6)) ≤ (x1.size : Int) then (some (x5, wrap64 ((wrap64 ((x0.size : Int) - x5)) - x6), x1.extract (x5 : Int).toNat ((wrap64 ((x1.size : Int) - x6)) : Int).toNat)) else (none)) else (none)) else (none))) else (none)) else (none)) else (none)) else (none)) else (if 0 ≤ x5 then (if x5 ≤ (wrap64 ((x1.size : Int) - x6)) then (if (wrap64 ((x1.size : Int) - x6)) ≤ (x1.size : Int) then (some (x5, wrap64 ((wrap64 ((x0.size : Int) - x5)) - x6), x1.extract (x5 : Int).toNat ((wrap64 ((x1.size : Int) - x6)) : Int).toNat)) else (none)) else (none)) else (none))) else (if 0 ≤ x5 then (if x5 ≤ (wrap64 ((x1.size : Int) - x6)) then (if (wrap64 ((x1.size : Int) - x6)) ≤ (x1.size : Int) then (some (x5, wrap64 ((wrap64 ((x0.size : Int) - x5)) - x6), x1.extract (x5 : Int).toNat ((wrap64 ((x1.size : Int) - x6)) : Int).toNat)) else (none)) else (none)) else (none))
def textdiff_Hull.l0 : Nat → ByteArray → ByteArray → Int → Option (Int × Int × ByteArray)
  | 0, _, _, _ => none
  | k + 1, x0, x1, x5 => if x5 < (x0.size : Int) then (if x5 < (x1.size : Int) then (if 0 ≤ x5 then (if (bt x0 x5) = (bt x1 x5) then (textdiff_Hull.l0 k x0 x1 (wrap64 (x5 + 1))) else (textdiff_Hull.j1 k x0 x1 x5)) else (none)) else (textdiff_Hull.j1 k x0 x1 x5)) else (textdiff_Hull.j1 k x0 x1 x5)
end
def textdiff_Hull.f (k : Nat) (a0 : ByteArray) (a1 : ByteArray) : Option (Int × Int × ByteArray) := textdiff_Hull.l0 k a0 a1 0
theorem textdiff_Hull.mono_l : ∀ k, (∀ y0 y1 y2, LeO (textdiff_Hull.j1 k y0 y1 y2) (textdiff_Hull.j1 (k + 1) y0 y1 y2)) ∧ (∀ y0 y1 y2 y3, LeO (textdiff_Hull.l1 k y0 y1 y2 y3) (textdiff_Hull.l1 (k + 1) y0 y1 y2 y3)) ∧ (∀ y0 y1 y2, LeO (textdiff_Hull.l0 k y0 y1 y2) (textdiff_Hull.l0 (k + 1) y0 y1 y2))
  | 0 => ⟨fun _ _ _ r h => by simp [textdiff_Hull.j1] at h, fun _ _ _ _ r h => by simp [textdiff_Hull.l1] at h, fun _ _ _ r h => by simp [textdiff_Hull.l0] at h⟩
  | k + 1 => by
    obtain ⟨ih0, ih1, ih2⟩ := textdiff_Hull.mono_l k
    refine ⟨?_, ?_, ?_⟩
    · intro y0 y1 y2
      unfold textdiff_Hull.j1
      repeat' first
      | (with_reducible exact ih0 _ _ _)
      | (with_reducible exact ih1 _ _ _ _)
      | (with_reducible exact ih2 _ _ _)
      | (with_reducible exact LeO.refl _)
      | (with_reducible exact LeO.none _)
      | (with_reducible refine LeO.ite ?_ ?_)
      | (with_reducible refine LeO.bind ?_ (fun _ => ?_))
      | exact ih0 _ _ _
      | exact ih1 _ _ _ _
      | exact ih2 _ _ _
      | exact LeO.none _
      | refine LeO.ite ?_ ?_
      | refine LeO.bind ?_ (fun _ => ?_)
    · intro y0 y1 y2 y3
      unfold textdiff_Hull.l1
      repeat' first
      | (with_reducible exact ih0 _ _ _)
      | (with_reducible exact ih1 _ _ _ _)
      | (with_reducible exact ih2 _ _ _)
      | (with_reducible exact LeO.refl _)
      | (with_reducible exact LeO.none _)
      | (with_reducible refine LeO.ite ?_ ?_)
      | (with_reducible refine LeO.bind ?_ (fun _ => ?_))
      | exact ih0 _ _ _
      | exact ih1 _ _ _ _
      | exact ih2 _ _ _
      | exact LeO.none _
      | refine LeO.ite ?_ ?_
      | refine LeO.bind ?_ (fun _ => ?_)
    · intro y0 y1 y2
      unfold textdiff_Hull.l0
      repeat' first
      | (with_reducible exact ih0 _ _ _)
      | (with_reducible exact ih1 _ _ _ _)
      | (with_reducible exact ih2 _ _ _)
      | (with_reducible exact LeO.refl _)
      | (with_reducible exact LeO.none _)
      | (with_reducible refine LeO.ite ?_ ?_)
      | (with_reducible refine LeO.bind ?_ (fun _ => ?_))
      | exact ih0 _ _ _
      | exact ih1 _ _ _ _
      | exact ih2 _ _ _
      | exact LeO.none _
      | refine LeO.ite ?_ ?_
      | refine LeO.bind ?_ (fun _ => ?_)
theorem textdiff_Hull.mono : ∀ a0 a1 k, LeO (textdiff_Hull.f k a0 a1) (textdiff_Hull.f (k + 1) a0 a1) := by
  intro a0 a1 k
  obtain ⟨ih0, ih1, ih2⟩ := textdiff_Hull.mono_l k
  unfold textdiff_Hull.f
  repeat' first
      | (with_reducible exact ih0 _ _ _)
      | (with_reducible exact ih1 _ _ _ _)
      | (with_reducible exact ih2 _ _ _)
      | (with_reducible exact LeO.refl _)
      | (with_reducible exact LeO.none _)
      | (with_reducible refine LeO.ite ?_ ?_)
      | (with_reducible refine LeO.bind ?_ (fun _ => ?_))
      | exact ih0 _ _ _
      | exact ih1 _ _ _ _
      | exact ih2 _ _ _
      | exact LeO.none _
      | refine LeO.ite ?_ ?_
      | refine LeO.bind ?_ (fun _ => ?_)
set_option maxHeartbeats 8000000 in
set_option maxRecDepth 100000 in
theorem textdiff_Hull.calls (k : Nat) (a0 : ByteArray) (a1 : ByteArray) (r1 : Int) (r2 : Int) (r3 : ByteArray) (w : World) (h : textdiff_Hull.f k a0 a1 = some (r1, r2, r3)) :
    Calls Try.prog 18 #[.string a0, .string a1] w fun e w' => e = .returned (.agg #[.int .i64 r1, .int .i64 r2, .string r3]) ∧ Below w.heap.size w w' := by
  have hu30 := Try.underlying30
  have HB := Aside0.mk (Below.refl w.heap.size w)
  have H : (textdiff_Hull.l0 k a0 a1 0) = some (r1, r2, r3) := h
  clear h
  have HC3 := Aside0.mk H
  clear H
  go_enter Try.func18, Try.ntmps18
  go_upto_block 0 with (first | ((with_reducible refine gate_dst (N := 4) rfl ?_); (try (refine gate_guard (by rfl) ?_; dsimp only)); refine box_event ?hg (N := 4) ?hd (cs := #[.int .i64 0, .int .i64 0, .string (⟨#[]⟩ : ByteArray)]) (t := 30) ?hr ?_; (case hd => rfl); (case hg => rfl); (case hr => first | (go_simp; done) | (go_simp; rfl)); intro gb104 hg w4 hbox hb; have n0_ := Aside0.mk (below_step (by repeat (first | (with_reducible first | exact HB.out | apply below_alloc | apply pw_below_drewN | apply below_drew1) | exact HB.out)) hb); have n1_ := Aside0.mk (hbox); have n2_ := Aside0.mk ((by rw [hg]; exact (below_size (by repeat (first | (with_reducible first | exact HB.out | apply below_alloc | apply pw_below_drewN | apply below_drew1) | exact HB.out))) : w.heap.size ≤ gb104)); have n3_ := Aside0.mk ((by rw [hg]; exact (below_size (by repeat (first | (with_reducible first | exact HB.out | apply below_alloc | apply pw_below_drewN | apply below_drew1) | exact HB.out))) : w.heap.size ≤ gb104)); clear HB; have HB := n0_; have BK104 := n1_; have GW104 := n2_; have GE104 := n3_; clear n0_ n1_ n2_ n3_; clear hb hbox hg))
  repeat (go_quiet (first | ((with_reducible refine gate_dst (N := 4) rfl ?_); (try (refine gate_guard (by rfl) ?_; dsimp only)); refine box_event ?hg (N := 4) ?hd (cs := #[.int .i64 0, .int .i64 0, .string (⟨#[]⟩ : ByteArray)]) (t := 30) ?hr ?_; (case hd => rfl); (case hg => rfl); (case hr => first | (go_simp; done) | (go_simp; rfl)); intro gb104 hg w4 hbox hb; have n0_ := Aside0.mk (below_step (by repeat (first | (with_reducible first | exact HB.out | apply below_alloc | apply pw_below_drewN | apply below_drew1) | exact HB.out)) hb); have n1_ := Aside0.mk (hbox); have n2_ := Aside0.mk ((by rw [hg]; exact (below_size (by repeat (first | (with_reducible first | exact HB.out | apply below_alloc | apply pw_below_drewN | apply below_drew1) | exact HB.out))) : w.heap.size ≤ gb104)); have n3_ := Aside0.mk ((by rw [hg]; exact (below_size (by repeat (first | (with_reducible first | exact HB.out | apply below_alloc | apply pw_below_drewN | apply below_drew1) | exact HB.out))) : w.heap.size ≤ gb104)); clear HB; have HB := n0_; have BK104 := n1_; have GW104 := n2_; have GE104 := n3_; clear n0_ n1_ n2_ n3_; clear hb hbox hg)); go_upto_block 0 with (first | ((with_reducible refine gate_dst (N := 4) rfl ?_); (try (refine gate_guard (by rfl) ?_; dsimp only)); refine box_event ?hg (N := 4) ?hd (cs := #[.int .i64 0, .int .i64 0, .string (⟨#[]⟩ : ByteArray)]) (t := 30) ?hr ?_; (case hd => rfl); (case hg => rfl); (case hr => first | (go_simp; done) | (go_simp; rfl)); intro gb104 hg w4 hbox hb; have n0_ := Aside0.mk (below_step (by repeat (first | (with_reducible first | exact HB.out | apply below_alloc | apply pw_below_drewN | apply below_drew1) | exact HB.out)) hb); have n1_ := Aside0.mk (hbox); have n2_ := Aside0.mk ((by rw [hg]; exact (below_size (by repeat (first | (with_reducible first | exact HB.out | apply below_alloc | apply pw_below_drewN | apply below_drew1) | exact HB.out))) : w.heap.size ≤ gb104)); have n3_ := Aside0.mk ((by rw [hg]; exact (below_size (by repeat (first | (with_reducible first | exact HB.out | apply below_alloc | apply pw_below_drewN | apply below_drew1) | exact HB.out))) : w.heap.size ≤ gb104)); clear HB; have HB := n0_; have BK104 := n1_; have GW104 := n2_; have GE104 := n3_; clear n0_ n1_ n2_ n3_; clear hb hbox hg)))
  (try simp only [Act.put, List.setIfInBounds_toArray, List.set_cons_zero, List.set_cons_succ])
  go_cut [5] (fun v5 wc => ∃ (kq : Nat) (x5_2 : Int), v5 = .int .i64 x5_2 ∧ Aside0 (textdiff_Hull.j1 kq a0 a1 x5_2 = some (r1, r2, r3)) ∧ Aside0 (kq ≤ k) ∧ Aside0 (wc.heap[gb104]? = some (.cells #[.int .i64 0, .int .i64 0, .string (⟨#[]⟩ : ByteArray)] 30 (0, 0))) ∧ Aside0 (Below w.heap.size w wc))
  case first =>
    have H := HC3.out
    clear HC3
    have H' := Aside0.mk H
    clear H
    go_wp2
    repeat (go_quiet (fail); try go_wp2)
    go_loopg [5] k (fun kq v5 w' => ∃ (x5_1 : Int), v5 = .int .i64 x5_1 ∧ Aside0 (textdiff_Hull.l0 kq a0 a1 x5_1 = some (r1, r2, r3)) ∧ Aside0 (kq ≤ k) ∧ Aside0 (w'.heap[gb104]? = some (.cells #[.int .i64 0, .int .i64 0, .string (⟨#[]⟩ : ByteArray)] 30 (0, 0))) ∧ Aside0 (Below w.heap.size w w'))
    case atStart => exact ⟨(0), (by first | rfl | (simp; done) | (simp [*]; done)), H', ⟨Nat.le_refl _⟩, ⟨by (with_reducible repeat (first | refine blk_drewN ?_ _ | refine blk_drew ?_ | refine blk_alloc ?_ _)); exact BK104.out⟩, ⟨by repeat (first | (with_reducible first | exact HB.out | apply below_alloc | apply pw_below_drewN | apply below_drew1 | refine below_set ?_ GE104.out) | exact HB.out)⟩⟩
    case round =>
      clear H'
      try clear c1
      try clear p2
      obtain ⟨x5_1, rfl, HA, HK1, BK104, HB⟩ := hrel
      cases gk with
      | zero => exact absurd HA.out (by simp [textdiff_Hull.l0])
      | succ k1 =>
        have H := HA.out
        clear HA
        simp only [textdiff_Hull.l0] at H
        by_cases c5 : x5_1 < (a0.size : Int)
        · rw [if_pos c5] at H
          have c5b0 : decide (x5_1 < (a0.size : Int)) = true := decide_eq_true c5
          clear c5
          (first | rw [c5b0] | (simp only [i64_w, i32_w]; rw [c5b0]) | skip)
          by_cases c6 : x5_1 < (a1.size : Int)
          · rw [if_pos c6] at H
            have c6b0 : decide (x5_1 < (a1.size : Int)) = true := decide_eq_true c6
            clear c6
            by_cases c7 : 0 ≤ x5_1
            · rw [if_pos c7] at H
              have c7b0 : decide (0 ≤ x5_1) = true := decide_eq_true c7
              clear c7
              by_cases c10 : (bt a0 x5_1) = (bt a1 x5_1)
              · rw [if_pos c10] at H
                have c10b0 : ((bt a0 x5_1) == (bt a1 x5_1)) = true := beq_iff_eq.mpr c10
                have c10b1 : ((bt a0 x5_1) != (bt a1 x5_1)) = false := bne_eq_false_iff_eq.mpr c10
                clear c10
                have H' := Aside0.mk H
                clear H
                have p8 : 0 ≤ (x5_1 : Int) := of_decide_eq_true (by first | (with_reducible assumption) | assumption)
                have q8 : x5_1 < (a0.size : Int) := of_decide_eq_true (by first | (with_reducible assumption) | assumption)
                have hx8 := bt_at a0 x5_1
                replace p8 := eq_true p8
                replace q8 := eq_true q8
                have p9 : 0 ≤ (x5_1 : Int) := of_decide_eq_true (by first | (with_reducible assumption) | assumption)
                have q9 : x5_1 < (a1.size : Int) := of_decide_eq_true (by first | (with_reducible assumption) | assumption)
                have hx9 := bt_at a1 x5_1
                replace p9 := eq_true p9
                replace q9 := eq_true q9
                go_wp2
                repeat (go_quiet (fail); try go_wp2)
                go_roundg k1
                case measure => have := HK1.out; omega
                case rel => exact ⟨(wrap64 (x5_1 + 1)), (by first | rfl | (simp; done) | (simp [*]; done)), H', ⟨by have := HK1.out; omega⟩, ⟨by (with_reducible repeat (first | refine blk_drewN ?_ _ | refine blk_drew ?_ | refine blk_alloc ?_ _)); exact BK104.out⟩, ⟨by repeat (first | (with_reducible first | exact HB.out | apply below_alloc | apply pw_below_drewN | apply below_drew1 | refine below_set ?_ GE104.out) | exact HB.out)⟩⟩
              · rw [if_neg c10] at H
                have c10b0 : ((bt a0 x5_1) == (bt a1 x5_1)) = false := beq_eq_false_iff_ne.mpr c10
                have c10b1 : ((bt a0 x5_1) != (bt a1 x5_1)) = true := bne_iff_ne.mpr c10
                have H' := Aside0.mk H
                clear H
                have p8 : 0 ≤ (x5_1 : Int) := of_decide_eq_true (by first | (with_reducible assumption) | assumption)
                have q8 : x5_1 < (a0.size : Int) := of_decide_eq_true (by first | (with_reducible assumption) | assumption)
                have hx8 := bt_at a0 x5_1
                replace p8 := eq_true p8
                replace q8 := eq_true q8
                have p9 : 0 ≤ (x5_1 : Int) := of_decide_eq_true (by first | (with_reducible assumption) | assumption)
                have q9 : x5_1 < (a1.size : Int) := of_decide_eq_true (by first | (with_reducible assumption) | assumption)
                have hx9 := bt_at a1 x5_1
                replace p9 := eq_true p9
                replace q9 := eq_true q9
                go_wp2
                repeat (go_quiet (fail); try go_wp2)
                go_meet
                case rel => exact ⟨_, (x5_1), (by first | rfl | (simp; done) | (simp [*]; done)), H', ⟨by have := HK1.out; first | omega | exact Nat.le_refl _⟩, ⟨by (with_reducible repeat (first | refine blk_drewN ?_ _ | refine blk_drew ?_ | refine blk_alloc ?_ _)); exact BK104.out⟩, ⟨by repeat (first | (with_reducible first | exact HB.out | apply below_alloc | apply pw_below_drewN | apply below_drew1 | refine below_set ?_ GE104.out) | exact HB.out)⟩⟩
            · rw [if_neg c7] at H
              exact absurd H (by simp)
          · rw [if_neg c6] at H
            have c6b0 : decide (x5_1 < (a1.size : Int)) = false := decide_eq_false c6
            clear c6
            have H' := Aside0.mk H
            clear H
            go_wp2
            repeat (go_quiet (fail); try go_wp2)
            go_meet
            case rel => exact ⟨_, (x5_1), (by first | rfl | (simp; done) | (simp [*]; done)), H', ⟨by have := HK1.out; first | omega | exact Nat.le_refl _⟩, ⟨by (with_reducible repeat (first | refine blk_drewN ?_ _ | refine blk_drew ?_ | refine blk_alloc ?_ _)); exact BK104.out⟩, ⟨by repeat (first | (with_reducible first | exact HB.out | apply below_alloc | apply pw_below_drewN | apply below_drew1 | refine below_set ?_ GE104.out) | exact HB.out)⟩⟩
        · rw [if_neg c5] at H
          have c5b0 : decide (x5_1 < (a0.size : Int)) = false := decide_eq_false c5
          clear c5
          (first | rw [c5b0] | (simp only [i64_w, i32_w]; rw [c5b0]) | skip)
          have H' := Aside0.mk H
          clear H
          go_wp2
          repeat (go_quiet (fail); try go_wp2)
          go_meet
          case rel => exact ⟨_, (x5_1), (by first | rfl | (simp; done) | (simp [*]; done)), H', ⟨by have := HK1.out; first | omega | exact Nat.le_refl _⟩, ⟨by (with_reducible repeat (first | refine blk_drewN ?_ _ | refine blk_drew ?_ | refine blk_alloc ?_ _)); exact BK104.out⟩, ⟨by repeat (first | (with_reducible first | exact HB.out | apply below_alloc | apply pw_below_drewN | apply below_drew1 | refine below_set ?_ GE104.out) | exact HB.out)⟩⟩
  case rest =>
    clear HC3
    try clear c1
    try clear p2
    try clear c5
    try clear c5b0
    try clear c6
    try clear c6b0
    try clear p6
    try clear c7
    try clear c7b0
    try clear p8
    try clear q8
    try clear hx8
    try clear p9
    try clear q9
    try clear hx9
    try clear c10
    try clear c10b0
    try clear c10b1
    try clear p2
    try clear p8
    try clear p9
    try clear q8
    try clear q9
    obtain ⟨kq, x5_2, rfl, HA, HJ2, BK104, HB⟩ := hcut
    cases kq with
    | zero => exact absurd HA.out (by simp [textdiff_Hull.j1])
    | succ kj2 =>
      have H := HA.out
      clear HA
      simp only [textdiff_Hull.j1] at H
      have H' := Aside0.mk H
      clear H
      go_wp2
      repeat (go_quiet (fail); try go_wp2)
      go_loopg [6] kj2 (fun kq v6 w' => ∃ (x6_2 : Int), v6 = .int .i64 x6_2 ∧ Aside0 (textdiff_Hull.l1 kq a0 a1 x5_2 x6_2 = some (r1, r2, r3)) ∧ Aside0 (kq ≤ kj2) ∧ Aside0 (w'.heap[gb104]? = some (.cells #[.int .i64 0, .int .i64 0, .string (⟨#[]⟩ : ByteArray)] 30 (0, 0))) ∧ Aside0 (Below w.heap.size w w'))
      case atStart => exact ⟨(0), (by first | rfl | (simp; done) | (simp [*]; done)), H', ⟨Nat.le_refl _⟩, ⟨by (with_reducible repeat (first | refine blk_drewN ?_ _ | refine blk_drew ?_ | refine blk_alloc ?_ _)); exact BK104.out⟩, ⟨by repeat (first | (with_reducible first | exact HB.out | apply below_alloc | apply pw_below_drewN | apply below_drew1 | refine below_set ?_ GE104.out) | exact HB.out)⟩⟩
      case round =>
        clear H'
        try clear c1
        try clear p2
        try clear c5
        try clear c5b0
        try clear c6
        try clear c6b0
        try clear p6
        try clear c7
        try clear c7b0
        try clear p8
        try clear q8
        try clear hx8
        try clear p9
        try clear q9
        try clear hx9
        try clear c10
        try clear c10b0
        try clear c10b1
        try clear p2
        try clear p6
        try clear p8
        try clear p9
        try clear q8
        try clear q9
        obtain ⟨x6_2, rfl, HA, HK2, BK104, HB⟩ := hrel
        cases gk with
        | zero => exact absurd HA.out (by simp [textdiff_Hull.l1])
        | succ k2 =>
          have H := HA.out
          clear HA
          simp only [textdiff_Hull.l1] at H
          by_cases c11 : x6_2 < (wrap64 ((a0.size : Int) - x5_2))
          · rw [if_pos c11] at H
            have c11b0 : decide (x6_2 < (wrap64 ((a0.size : Int) - x5_2))) = true := decide_eq_true c11
            clear c11
            by_cases c12 : x6_2 < (wrap64 ((a1.size : Int) - x5_2))
            · rw [if_pos c12] at H
              have c12b0 : decide (x6_2 < (wrap64 ((a1.size : Int) - x5_2))) = true := decide_eq_true c12
              clear c12
              obtain ⟨ji13, hji13⟩ : ∃ j_ : Int, (wrap64 ((wrap64 ((a0.size : Int) - 1)) - x6_2)) = j_ := ⟨_, rfl⟩
              replace H : (if 0 ≤ (ji13) then (if (ji13) < (a0.size : Int) then (if 0 ≤ (wrap64 ((wrap64 ((a1.size : Int) - 1)) - x6_2)) then (if (wrap64 ((wrap64 ((a1.size : Int) - 1)) - x6_2)) < (a1.size : Int) then (if (bt a0 (ji13)) = (bt a1 (wrap64 ((wrap64 ((a1.size : Int) - 1)) - x6_2))) then (textdiff_Hull.l1 k2 a0 a1 x5_2 (wrap64 (x6_2 + 1))) else (if 0 ≤ x5_2 then (if x5_2 ≤ (wrap64 ((a1.size : Int) - x6_2)) then (if (wrap64 ((a1.size : Int) - x6_2)) ≤ (a1.size : Int) then (some (x5_2, wrap64 ((wrap64 ((a0.size : Int) - x5_2)) - x6_2), a1.extract (x5_2 : Int).toNat ((wrap64 ((a1.size : Int) - x6_2)) : Int).toNat)) else (none)) else (none)) else (none))) else (none)) else (none)) else (none)) else (none)) = some (r1, r2, r3) := by first | (rw [hji13] at H; exact H) | (simp only [hji13] at H ⊢; exact H)
              have hji13w : (IntKind.i64.wrap ((wrap64 ((a0.size : Int) - 1)) - x6_2)) = ji13 := (i64_w _).trans hji13
              by_cases c14 : 0 ≤ (ji13)
              · rw [if_pos c14] at H
                have c14b0 : decide (0 ≤ (ji13)) = true := decide_eq_true c14
                clear c14
                by_cases c15 : (ji13) < (a0.size : Int)
                · rw [if_pos c15] at H
                  have c15b0 : decide ((ji13) < (a0.size : Int)) = true := decide_eq_true c15
                  clear c15
                  obtain ⟨ji17, hji17⟩ : ∃ j_ : Int, (wrap64 ((wrap64 ((a1.size : Int) - 1)) - x6_2)) = j_ := ⟨_, rfl⟩
                  replace H : (if 0 ≤ (ji17) then (if (ji17) < (a1.size : Int) then (if (bt a0 (ji13)) = (bt a1 (ji17)) then (textdiff_Hull.l1 k2 a0 a1 x5_2 (wrap64 (x6_2 + 1))) else (if 0 ≤ x5_2 then (if x5_2 ≤ (wrap64 ((a1.size : Int) - x6_2)) then (if (wrap64 ((a1.size : Int) - x6_2)) ≤ (a1.size : Int) then (some (x5_2, wrap64 ((wrap64 ((a0.size : Int) - x5_2)) - x6_2), a1.extract (x5_2 : Int).toNat ((wrap64 ((a1.size : Int) - x6_2)) : Int).toNat)) else (none)) else (none)) else (none))) else (none)) else (none)) = some (r1, r2, r3) := by first | (rw [hji17] at H; exact H) | (simp only [hji17] at H ⊢; exact H)
                  have hji17w : (IntKind.i64.wrap ((wrap64 ((a1.size : Int) - 1)) - x6_2)) = ji17 := (i64_w _).trans hji17
                  by_cases c18 : 0 ≤ (ji17)
                  · rw [if_pos c18] at H
                    have c18b0 : decide (0 ≤ (ji17)) = true := decide_eq_true c18
                    clear c18
                    by_cases c19 : (ji17) < (a1.size : Int)
                    · rw [if_pos c19] at H
                      have c19b0 : decide ((ji17) < (a1.size : Int)) = true := decide_eq_true c19
                      clear c19
                      by_cases c21 : (bt a0 (ji13)) = (bt a1 (ji17))
                      · rw [if_pos c21] at H
                        have c21b0 : ((bt a0 (ji13)) == (bt a1 (ji17))) = true := beq_iff_eq.mpr c21
                        have c21b1 : ((bt a0 (ji13)) != (bt a1 (ji17))) = false := bne_eq_false_iff_eq.mpr c21
                        clear c21
                        have H' := Aside0.mk H
                        clear H
                        have p16 : 0 ≤ ((ji13) : Int) := of_decide_eq_true (by first | (with_reducible assumption) | assumption)
                        have q16 : (ji13) < (a0.size : Int) := of_decide_eq_true (by first | (with_reducible assumption) | assumption)
                        have hx16 := bt_at a0 (ji13)
                        replace p16 := eq_true p16
                        replace q16 := eq_true q16
                        have p20 : 0 ≤ ((ji17) : Int) := of_decide_eq_true (by first | (with_reducible assumption) | assumption)
                        have q20 : (ji17) < (a1.size : Int) := of_decide_eq_true (by first | (with_reducible assumption) | assumption)
                        have hx20 := bt_at a1 (ji17)
                        replace p20 := eq_true p20
                        replace q20 := eq_true q20
                        go_wp2
                        repeat (go_quiet (fail); try go_wp2)
                        go_roundg k2
                        case measure => have := HJ2.out; have := HK2.out; omega
                        case rel => exact ⟨(wrap64 (x6_2 + 1)), (by first | rfl | (simp; done) | (simp [*]; done)), H', ⟨by have := HJ2.out; have := HK2.out; omega⟩, ⟨by (with_reducible repeat (first | refine blk_drewN ?_ _ | refine blk_drew ?_ | refine blk_alloc ?_ _)); exact BK104.out⟩, ⟨by repeat (first | (with_reducible first | exact HB.out | apply below_alloc | apply pw_below_drewN | apply below_drew1 | refine below_set ?_ GE104.out) | exact HB.out)⟩⟩
                      · rw [if_neg c21] at H
                        have c21b0 : ((bt a0 (ji13)) == (bt a1 (ji17))) = false := beq_eq_false_iff_ne.mpr c21
                        have c21b1 : ((bt a0 (ji13)) != (bt a1 (ji17))) = true := bne_iff_ne.mpr c21
                        by_cases c22 : 0 ≤ x5_2
                        · rw [if_pos c22] at H
                          have c22b0 := eq_true c22
                          try (have c22n := c22; simp only [ByteArray.size_append, ByteArray.size_extract, Nat.min_self, Nat.zero_add] at c22n; (repeat (rw [Nat.min_eq_left] at c22n; rotate_left; (refine Int.toNat_le.2 ?_; exact of_decide_eq_true (by first | (with_reducible assumption) | assumption)))); (try simp only [Nat.sub_zero] at c22n); (first | have c22nf := eq_false (Nat.not_lt.2 c22n) | have c22nf := eq_false (Int.not_lt.2 c22n) | skip); replace c22n := eq_true c22n)
                          have c22b1 : decide (0 ≤ x5_2) = true := decide_eq_true c22
                          clear c22
                          by_cases c23 : x5_2 ≤ (wrap64 ((a1.size : Int) - x6_2))
                          · rw [if_pos c23] at H
                            have c23b0 := eq_true c23
                            try (have c23n := c23; simp only [ByteArray.size_append, ByteArray.size_extract, Nat.min_self, Nat.zero_add] at c23n; (repeat (rw [Nat.min_eq_left] at c23n; rotate_left; (refine Int.toNat_le.2 ?_; exact of_decide_eq_true (by first | (with_reducible assumption) | assumption)))); (try simp only [Nat.sub_zero] at c23n); (first | have c23nf := eq_false (Nat.not_lt.2 c23n) | have c23nf := eq_false (Int.not_lt.2 c23n) | skip); replace c23n := eq_true c23n)
                            have c23b1 : decide (x5_2 ≤ (wrap64 ((a1.size : Int) - x6_2))) = true := decide_eq_true c23
                            clear c23
                            by_cases c24 : (wrap64 ((a1.size : Int) - x6_2)) ≤ (a1.size : Int)
                            · rw [if_pos c24] at H
                              have c24b0 := eq_true c24
                              try (have c24n := c24; simp only [ByteArray.size_append, ByteArray.size_extract, Nat.min_self, Nat.zero_add] at c24n; (repeat (rw [Nat.min_eq_left] at c24n; rotate_left; (refine Int.toNat_le.2 ?_; exact of_decide_eq_true (by first | (with_reducible assumption) | assumption)))); (try simp only [Nat.sub_zero] at c24n); (first | have c24nf := eq_false (Nat.not_lt.2 c24n) | have c24nf := eq_false (Int.not_lt.2 c24n) | skip); replace c24n := eq_true c24n)
                              have c24b1 : decide ((wrap64 ((a1.size : Int) - x6_2)) ≤ (a1.size : Int)) = true := decide_eq_true c24
                              clear c24
                              simp only [Option.some.injEq, Prod.mk.injEq] at H
                              obtain ⟨rfl, rfl, rfl⟩ := H
                              have p16 : 0 ≤ ((ji13) : Int) := of_decide_eq_true (by first | (with_reducible assumption) | assumption)
                              have q16 : (ji13) < (a0.size : Int) := of_decide_eq_true (by first | (with_reducible assumption) | assumption)
                              have hx16 := bt_at a0 (ji13)
                              replace p16 := eq_true p16
                              replace q16 := eq_true q16
                              have p20 : 0 ≤ ((ji17) : Int) := of_decide_eq_true (by first | (with_reducible assumption) | assumption)
                              have q20 : (ji17) < (a1.size : Int) := of_decide_eq_true (by first | (with_reducible assumption) | assumption)
                              have hx20 := bt_at a1 (ji17)
                              replace p20 := eq_true p20
                              replace q20 := eq_true q20
                              have hcz25_0 : wr.cell? ⟨gb104, 0, none⟩ = some (.int .i64 0) := (blk_cell BK104.out 0).trans rfl
                              have hcz25_1 : wr.cell? ⟨gb104, 1, none⟩ = some (.int .i64 0) := (blk_cell BK104.out 1).trans rfl
                              have hcz25_2 : wr.cell? ⟨gb104, 2, none⟩ = some (.string (⟨#[]⟩ : ByteArray)) := (blk_cell BK104.out 2).trans rfl
                              have hfz25_0 := blk_frozen BK104.out 0
                              have hfz25_1 := blk_frozen BK104.out 1
                              have hfz25_2 := blk_frozen BK104.out 2
                              go_wp2
                              repeat (go_quiet (fail); try go_wp2)
                              refine bodyPost_ret (results_cell_row rfl _ _ gb104 30 #[.int .i64 x5_2, .int .i64 (wrap64 ((wrap64 ((a0.size : Int) - x5_2)) - x6_2)), .string (a1.extract (x5_2 : Int).toNat ((wrap64 ((a1.size : Int) - x6_2)) : Int).toNat)] (0, 0) _ rfl (by (with_reducible repeat (first | refine blk_drewN ?_ _ | refine blk_drew ?_ | refine blk_alloc ?_ _)); refine blk_put (cs := #[.int .i64 x5_2, .int .i64 (wrap64 ((wrap64 ((a0.size : Int) - x5_2)) - x6_2)), .string (⟨#[]⟩ : ByteArray)]) ?_ 2 _ rfl; (with_reducible repeat (first | refine blk_drewN ?_ _ | refine blk_drew ?_ | refine blk_alloc ?_ _)); refine blk_put (cs := #[.int .i64 x5_2, .int .i64 0, .string (⟨#[]⟩ : ByteArray)]) ?_ 1 _ rfl; (with_reducible repeat (first | refine blk_drewN ?_ _ | refine blk_drew ?_ | refine blk_alloc ?_ _)); refine blk_put (cs := #[.int .i64 0, .int .i64 0, .string (⟨#[]⟩ : ByteArray)]) ?_ 0 _ rfl; (with_reducible repeat (first | refine blk_drewN ?_ _ | refine blk_drew ?_ | refine blk_alloc ?_ _)); exact BK104.out) Try.underlying30 rfl (by kernel_rfl)) rfl ?_
                              exact ⟨by first | rfl | (simp [errW_none, errW_some] <;> rfl) | (simp only [← hji13, ← hji17]; first | rfl | (simp [errW_none, errW_some] <;> rfl)) | (simp [*, errW_none, errW_some] <;> rfl), by repeat (first | (with_reducible first | exact HB.out | apply below_alloc | apply pw_below_drewN | apply below_drew1 | refine below_set ?_ GE104.out) | exact HB.out)⟩
                            · rw [if_neg c24] at H
                              exact absurd H (by simp)
                          · rw [if_neg c23] at H
                            exact absurd H (by simp)
                        · rw [if_neg c22] at H
                          exact absurd H (by simp)
                    · rw [if_neg c19] at H
                      exact absurd H (by simp)
                  · rw [if_neg c18] at H
                    exact absurd H (by simp)
                · rw [if_neg c15] at H
                  exact absurd H (by simp)
              · rw [if_neg c14] at H
                exact absurd H (by simp)
            · rw [if_neg c12] at H
              have c12b0 : decide (x6_2 < (wrap64 ((a1.size : Int) - x5_2))) = false := decide_eq_false c12
              clear c12
              by_cases c26 : 0 ≤ x5_2
              · rw [if_pos c26] at H
                have c26b0 := eq_true c26
                try (have c26n := c26; simp only [ByteArray.size_append, ByteArray.size_extract, Nat.min_self, Nat.zero_add] at c26n; (repeat (rw [Nat.min_eq_left] at c26n; rotate_left; (refine Int.toNat_le.2 ?_; exact of_decide_eq_true (by first | (with_reducible assumption) | assumption)))); (try simp only [Nat.sub_zero] at c26n); (first | have c26nf := eq_false (Nat.not_lt.2 c26n) | have c26nf := eq_false (Int.not_lt.2 c26n) | skip); replace c26n := eq_true c26n)
                have c26b1 : decide (0 ≤ x5_2) = true := decide_eq_true c26
                clear c26
                by_cases c27 : x5_2 ≤ (wrap64 ((a1.size : Int) - x6_2))
                · rw [if_pos c27] at H
                  have c27b0 := eq_true c27
                  try (have c27n := c27; simp only [ByteArray.size_append, ByteArray.size_extract, Nat.min_self, Nat.zero_add] at c27n; (repeat (rw [Nat.min_eq_left] at c27n; rotate_left; (refine Int.toNat_le.2 ?_; exact of_decide_eq_true (by first | (with_reducible assumption) | assumption)))); (try simp only [Nat.sub_zero] at c27n); (first | have c27nf := eq_false (Nat.not_lt.2 c27n) | have c27nf := eq_false (Int.not_lt.2 c27n) | skip); replace c27n := eq_true c27n)
                  have c27b1 : decide (x5_2 ≤ (wrap64 ((a1.size : Int) - x6_2))) = true := decide_eq_true c27
                  clear c27
                  by_cases c28 : (wrap64 ((a1.size : Int) - x6_2)) ≤ (a1.size : Int)
                  · rw [if_pos c28] at H
                    have c28b0 := eq_true c28
                    try (have c28n := c28; simp only [ByteArray.size_append, ByteArray.size_extract, Nat.min_self, Nat.zero_add] at c28n; (repeat (rw [Nat.min_eq_left] at c28n; rotate_left; (refine Int.toNat_le.2 ?_; exact of_decide_eq_true (by first | (with_reducible assumption) | assumption)))); (try simp only [Nat.sub_zero] at c28n); (first | have c28nf := eq_false (Nat.not_lt.2 c28n) | have c28nf := eq_false (Int.not_lt.2 c28n) | skip); replace c28n := eq_true c28n)
                    have c28b1 : decide ((wrap64 ((a1.size : Int) - x6_2)) ≤ (a1.size : Int)) = true := decide_eq_true c28
                    clear c28
                    simp only [Option.some.injEq, Prod.mk.injEq] at H
                    obtain ⟨rfl, rfl, rfl⟩ := H
                    have hcz29_0 : wr.cell? ⟨gb104, 0, none⟩ = some (.int .i64 0) := (blk_cell BK104.out 0).trans rfl
                    have hcz29_1 : wr.cell? ⟨gb104, 1, none⟩ = some (.int .i64 0) := (blk_cell BK104.out 1).trans rfl
                    have hcz29_2 : wr.cell? ⟨gb104, 2, none⟩ = some (.string (⟨#[]⟩ : ByteArray)) := (blk_cell BK104.out 2).trans rfl
                    have hfz29_0 := blk_frozen BK104.out 0
                    have hfz29_1 := blk_frozen BK104.out 1
                    have hfz29_2 := blk_frozen BK104.out 2
                    go_wp2
                    repeat (go_quiet (fail); try go_wp2)
                    refine bodyPost_ret (results_cell_row rfl _ _ gb104 30 #[.int .i64 x5_2, .int .i64 (wrap64 ((wrap64 ((a0.size : Int) - x5_2)) - x6_2)), .string (a1.extract (x5_2 : Int).toNat ((wrap64 ((a1.size : Int) - x6_2)) : Int).toNat)] (0, 0) _ rfl (by (with_reducible repeat (first | refine blk_drewN ?_ _ | refine blk_drew ?_ | refine blk_alloc ?_ _)); refine blk_put (cs := #[.int .i64 x5_2, .int .i64 (wrap64 ((wrap64 ((a0.size : Int) - x5_2)) - x6_2)), .string (⟨#[]⟩ : ByteArray)]) ?_ 2 _ rfl; (with_reducible repeat (first | refine blk_drewN ?_ _ | refine blk_drew ?_ | refine blk_alloc ?_ _)); refine blk_put (cs := #[.int .i64 x5_2, .int .i64 0, .string (⟨#[]⟩ : ByteArray)]) ?_ 1 _ rfl; (with_reducible repeat (first | refine blk_drewN ?_ _ | refine blk_drew ?_ | refine blk_alloc ?_ _)); refine blk_put (cs := #[.int .i64 0, .int .i64 0, .string (⟨#[]⟩ : ByteArray)]) ?_ 0 _ rfl; (with_reducible repeat (first | refine blk_drewN ?_ _ | refine blk_drew ?_ | refine blk_alloc ?_ _)); exact BK104.out) Try.underlying30 rfl (by kernel_rfl)) rfl ?_
                    exact ⟨by first | rfl | (simp [errW_none, errW_some] <;> rfl) | (simp [*, errW_none, errW_some] <;> rfl), by repeat (first | (with_reducible first | exact HB.out | apply below_alloc | apply pw_below_drewN | apply below_drew1 | refine below_set ?_ GE104.out) | exact HB.out)⟩
                  · rw [if_neg c28] at H
                    exact absurd H (by simp)
                · rw [if_neg c27] at H
                  exact absurd H (by simp)
              · rw [if_neg c26] at H
                exact absurd H (by simp)
          · rw [if_neg c11] at H
            have c11b0 : decide (x6_2 < (wrap64 ((a0.size : Int) - x5_2))) = false := decide_eq_false c11
            clear c11
            by_cases c30 : 0 ≤ x5_2
            · rw [if_pos c30] at H
              have c30b0 := eq_true c30
              try (have c30n := c30; simp only [ByteArray.size_append, ByteArray.size_extract, Nat.min_self, Nat.zero_add] at c30n; (repeat (rw [Nat.min_eq_left] at c30n; rotate_left; (refine Int.toNat_le.2 ?_; exact of_decide_eq_true (by first | (with_reducible assumption) | assumption)))); (try simp only [Nat.sub_zero] at c30n); (first | have c30nf := eq_false (Nat.not_lt.2 c30n) | have c30nf := eq_false (Int.not_lt.2 c30n) | skip); replace c30n := eq_true c30n)
              have c30b1 : decide (0 ≤ x5_2) = true := decide_eq_true c30
              clear c30
              by_cases c31 : x5_2 ≤ (wrap64 ((a1.size : Int) - x6_2))
              · rw [if_pos c31] at H
                have c31b0 := eq_true c31
                try (have c31n := c31; simp only [ByteArray.size_append, ByteArray.size_extract, Nat.min_self, Nat.zero_add] at c31n; (repeat (rw [Nat.min_eq_left] at c31n; rotate_left; (refine Int.toNat_le.2 ?_; exact of_decide_eq_true (by first | (with_reducible assumption) | assumption)))); (try simp only [Nat.sub_zero] at c31n); (first | have c31nf := eq_false (Nat.not_lt.2 c31n) | have c31nf := eq_false (Int.not_lt.2 c31n) | skip); replace c31n := eq_true c31n)
                have c31b1 : decide (x5_2 ≤ (wrap64 ((a1.size : Int) - x6_2))) = true := decide_eq_true c31
                clear c31
                by_cases c32 : (wrap64 ((a1.size : Int) - x6_2)) ≤ (a1.size : Int)
                · rw [if_pos c32] at H
                  have c32b0 := eq_true c32
                  try (have c32n := c32; simp only [ByteArray.size_append, ByteArray.size_extract, Nat.min_self, Nat.zero_add] at c32n; (repeat (rw [Nat.min_eq_left] at c32n; rotate_left; (refine Int.toNat_le.2 ?_; exact of_decide_eq_true (by first | (with_reducible assumption) | assumption)))); (try simp only [Nat.sub_zero] at c32n); (first | have c32nf := eq_false (Nat.not_lt.2 c32n) | have c32nf := eq_false (Int.not_lt.2 c32n) | skip); replace c32n := eq_true c32n)
                  have c32b1 : decide ((wrap64 ((a1.size : Int) - x6_2)) ≤ (a1.size : Int)) = true := decide_eq_true c32
                  clear c32
                  simp only [Option.some.injEq, Prod.mk.injEq] at H
                  obtain ⟨rfl, rfl, rfl⟩ := H
                  have hcz33_0 : wr.cell? ⟨gb104, 0, none⟩ = some (.int .i64 0) := (blk_cell BK104.out 0).trans rfl
                  have hcz33_1 : wr.cell? ⟨gb104, 1, none⟩ = some (.int .i64 0) := (blk_cell BK104.out 1).trans rfl
                  have hcz33_2 : wr.cell? ⟨gb104, 2, none⟩ = some (.string (⟨#[]⟩ : ByteArray)) := (blk_cell BK104.out 2).trans rfl
                  have hfz33_0 := blk_frozen BK104.out 0
                  have hfz33_1 := blk_frozen BK104.out 1
                  have hfz33_2 := blk_frozen BK104.out 2
                  go_wp2
                  repeat (go_quiet (fail); try go_wp2)
                  refine bodyPost_ret (results_cell_row rfl _ _ gb104 30 #[.int .i64 x5_2, .int .i64 (wrap64 ((wrap64 ((a0.size : Int) - x5_2)) - x6_2)), .string (a1.extract (x5_2 : Int).toNat ((wrap64 ((a1.size : Int) - x6_2)) : Int).toNat)] (0, 0) _ rfl (by (with_reducible repeat (first | refine blk_drewN ?_ _ | refine blk_drew ?_ | refine blk_alloc ?_ _)); refine blk_put (cs := #[.int .i64 x5_2, .int .i64 (wrap64 ((wrap64 ((a0.size : Int) - x5_2)) - x6_2)), .string (⟨#[]⟩ : ByteArray)]) ?_ 2 _ rfl; (with_reducible repeat (first | refine blk_drewN ?_ _ | refine blk_drew ?_ | refine blk_alloc ?_ _)); refine blk_put (cs := #[.int .i64 x5_2, .int .i64 0, .string (⟨#[]⟩ : ByteArray)]) ?_ 1 _ rfl; (with_reducible repeat (first | refine blk_drewN ?_ _ | refine blk_drew ?_ | refine blk_alloc ?_ _)); refine blk_put (cs := #[.int .i64 0, .int .i64 0, .string (⟨#[]⟩ : ByteArray)]) ?_ 0 _ rfl; (with_reducible repeat (first | refine blk_drewN ?_ _ | refine blk_drew ?_ | refine blk_alloc ?_ _)); exact BK104.out) Try.underlying30 rfl (by kernel_rfl)) rfl ?_
                  exact ⟨by first | rfl | (simp [errW_none, errW_some] <;> rfl) | (simp [*, errW_none, errW_some] <;> rfl), by repeat (first | (with_reducible first | exact HB.out | apply below_alloc | apply pw_below_drewN | apply below_drew1 | refine below_set ?_ GE104.out) | exact HB.out)⟩
                · rw [if_neg c32] at H
                  exact absurd H (by simp)
              · rw [if_neg c31] at H
                exact absurd H (by simp)
            · rw [if_neg c30] at H
              exact absurd H (by simp)

end Go.Proofs.Ythhgfagnallcnaa.PA
