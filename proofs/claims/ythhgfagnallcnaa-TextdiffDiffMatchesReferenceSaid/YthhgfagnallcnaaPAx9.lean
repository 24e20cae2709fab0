/- A part of a law as a program wrote it (wip/myprint.py, over the print of the kit): a function, what its call does, or the row of a law; Lean checks it. -/
import Derived.Test.YthhgfagnallcnaaPAx0
import Derived.Test.YthhgfagnallcnaaPAx1
import Derived.Test.YthhgfagnallcnaaPAx5
import Derived.Test.YthhgfagnallcnaaPAx6
import Derived.Test.YthhgfagnallcnaaPAx7
import Derived.Test.YthhgfagnallcnaaPAx8
namespace Go.Proofs.Ythhgfagnallcnaa.PA
open Go.RowKit Go.Proofs.YthhgfagnallcnaaW.PrintWords Go.Proofs.YthhgfagnallcnaaW.PrintLast Go.Proofs.YthhgfagnallcnaaW.PrintMore
attribute [local go_sem] max2_int min2_int max_two min_two max_three min_three max_four min_four   -- for this text's walks alone
set_option linter.unusedVariables false
set_option linter.unusedSimpArgs false

attribute [local go_sem high] eqA30
/-! ### emendatelaw06_awake: function 10 -/
def emendatelaw06_awake.f (k : Nat)  : Option (Bool) := (textdiff_Distance.f (⟨#[107, 105, 116, 116, 101, 110]⟩ : ByteArray) (⟨#[115, 105, 116, 116, 105, 110, 103]⟩ : ByteArray)).bind fun t105 => (if t105 = 5 then ((textdiff_Diff.f (⟨#[97, 98, 99, 100]⟩ : ByteArray) (⟨#[97, 120, 99, 100]⟩ : ByteArray)).bind fun t106 => ((emendateref03_Same.f k t106 (([(⟨1, 1, (⟨#[120]⟩ : ByteArray)⟩ : S30)] : List (S30)))).bind fun t112 => (if t112 = true then ((textdiff_Hull.f k (⟨#[97, 98, 99, 100]⟩ : ByteArray) (⟨#[97, 98, 120, 98, 99, 100]⟩ : ByteArray)).bind fun bt113 => (some (bt113.1 == 2 && (bt113.2.1 == 0 && (bt113.2.2.toList == ([120, 98] : List UInt8)))))) else (some false)))) else (some false))
theorem emendatelaw06_awake.mono : ∀ k, LeO (emendatelaw06_awake.f k ) (emendatelaw06_awake.f (k + 1) ) := by
  intro  k
  unfold emendatelaw06_awake.f
  repeat' first
      | (with_reducible exact emendateref03_Same.mono _ _ _)
      | (with_reducible exact textdiff_Hull.mono _ _ _)
      | (with_reducible exact LeO.refl _)
      | (with_reducible exact LeO.none _)
      | (with_reducible refine LeO.ite ?_ ?_)
      | (with_reducible refine LeO.bind ?_ (fun _ => ?_))
      | exact emendateref03_Same.mono _ _ _
      | exact textdiff_Hull.mono _ _ _
      | exact LeO.none _
      | refine LeO.ite ?_ ?_
      | refine LeO.bind ?_ (fun _ => ?_)
set_option maxHeartbeats 8000000 in
set_option maxRecDepth 100000 in
theorem emendatelaw06_awake.calls (k : Nat)  (r : Bool) (w : World) (h : emendatelaw06_awake.f k  = some r) :
    Calls Try.prog 10 #[] w fun e w' => e = .returned (.bool r) ∧ Below w.heap.size w w' := by
  have hu30 := Try.underlying30
  have HB := Aside0.mk (Below.refl w.heap.size w)
  have H : ((textdiff_Distance.f (⟨#[107, 105, 116, 116, 101, 110]⟩ : ByteArray) (⟨#[115, 105, 116, 116, 105, 110, 103]⟩ : ByteArray)).bind fun t105 => (if t105 = 5 then ((textdiff_Diff.f (⟨#[97, 98, 99, 100]⟩ : ByteArray) (⟨#[97, 120, 99, 100]⟩ : ByteArray)).bind fun t106 => ((emendateref03_Same.f k t106 (([(⟨1, 1, (⟨#[120]⟩ : ByteArray)⟩ : S30)] : List (S30)))).bind fun t112 => (if t112 = true then ((textdiff_Hull.f k (⟨#[97, 98, 99, 100]⟩ : ByteArray) (⟨#[97, 98, 120, 98, 99, 100]⟩ : ByteArray)).bind fun bt113 => (some (bt113.1 == 2 && (bt113.2.1 == 0 && (bt113.2.2.toList == ([120, 98] : List UInt8)))))) else (some false)))) else (some false))) = some r := h
  clear h
  replace H := Option.bind_eq_some_iff.mp H
  obtain ⟨t105, A10, H⟩ := H
  replace H : (if t105 = 5 then ((textdiff_Diff.f (⟨#[97, 98, 99, 100]⟩ : ByteArray) (⟨#[97, 120, 99, 100]⟩ : ByteArray)).bind fun t106 => ((emendateref03_Same.f k t106 (([(⟨1, 1, (⟨#[120]⟩ : ByteArray)⟩ : S30)] : List (S30)))).bind fun t112 => (if t112 = true then ((textdiff_Hull.f k (⟨#[97, 98, 99, 100]⟩ : ByteArray) (⟨#[97, 98, 120, 98, 99, 100]⟩ : ByteArray)).bind fun bt113 => (some (bt113.1 == 2 && (bt113.2.1 == 0 && (bt113.2.2.toList == ([120, 98] : List UInt8)))))) else (some false)))) else (some false)) = some r := H
  have A1 := Aside0.mk A10
  clear A10
  by_cases c2 : t105 = 5
  · rw [if_pos c2] at H
    have c2b0 : (t105 == 5) = true := beq_iff_eq.mpr c2
    have c2b1 : (t105 != 5) = false := bne_eq_false_iff_eq.mpr c2
    clear c2
    replace H := Option.bind_eq_some_iff.mp H
    obtain ⟨t106, A30, H⟩ := H
    replace H : ((emendateref03_Same.f k t106 (([(⟨1, 1, (⟨#[120]⟩ : ByteArray)⟩ : S30)] : List (S30)))).bind fun t112 => (if t112 = true then ((textdiff_Hull.f k (⟨#[97, 98, 99, 100]⟩ : ByteArray) (⟨#[97, 98, 120, 98, 99, 100]⟩ : ByteArray)).bind fun bt113 => (some (bt113.1 == 2 && (bt113.2.1 == 0 && (bt113.2.2.toList == ([120, 98] : List UInt8)))))) else (some false))) = some r := H
    have A3 := Aside0.mk A30
    clear A30
    obtain ⟨y109, hy109⟩ : ∃ y_ : List (S30), y_ = (([(⟨1, 1, (⟨#[120]⟩ : ByteArray)⟩ : S30)] : List (S30))) := ⟨_, rfl⟩
    replace H : ((emendateref03_Same.f k t106 y109).bind fun t112 => (if t112 = true then ((textdiff_Hull.f k (⟨#[97, 98, 99, 100]⟩ : ByteArray) (⟨#[97, 98, 120, 98, 99, 100]⟩ : ByteArray)).bind fun bt113 => (some (bt113.1 == 2 && (bt113.2.1 == 0 && (bt113.2.2.toList == ([120, 98] : List UInt8)))))) else (some false))) = some r := by first | (rw [hy109]; with_reducible exact H) | (have H2_ := (Option.bind_some _ _).symm.trans H; rw [hy109]; with_reducible exact H2_) | (have H2_ := (Option.bind_some _ _).symm.trans H; with_reducible exact H2_) | with_reducible exact H | (rw [hy109]; exact H) | exact H
    have Ny109 := Aside0.mk hy109
    clear hy109
    replace H := Option.bind_eq_some_iff.mp H
    obtain ⟨t112, A40, H⟩ := H
    replace H : (if t112 = true then ((textdiff_Hull.f k (⟨#[97, 98, 99, 100]⟩ : ByteArray) (⟨#[97, 98, 120, 98, 99, 100]⟩ : ByteArray)).bind fun bt113 => (some (bt113.1 == 2 && (bt113.2.1 == 0 && (bt113.2.2.toList == ([120, 98] : List UInt8)))))) else (some false)) = some r := H
    have A4 := Aside0.mk A40
    clear A40
    by_cases c5 : t112 = true
    · subst c5
      have H1 : ((textdiff_Hull.f k (⟨#[97, 98, 99, 100]⟩ : ByteArray) (⟨#[97, 98, 120, 98, 99, 100]⟩ : ByteArray)).bind fun bt113 => (some (bt113.1 == 2 && (bt113.2.1 == 0 && (bt113.2.2.toList == ([120, 98] : List UInt8)))))) = some r := by rw [if_pos rfl] at H; exact H
      clear H
      have H := H1
      clear H1
      replace H := Option.bind_eq_some_iff.mp H
      obtain ⟨⟨t113, t114, t115⟩, A60, H⟩ := H
      replace H : (some (t113 == 2 && (t114 == 0 && (t115.toList == ([120, 98] : List UInt8))))) = some r := H
      have A6 := Aside0.mk A60
      clear A60
      obtain rfl := Option.some.inj H
      go_enter Try.func10, Try.ntmps10
      go_wp2_with (first | ((with_reducible refine gate_callee (f := 12) rfl ?_); refine goesL_ (some 1) rfl rfl Try.func12 (by kernel_rfl) rfl #[.string (⟨#[107, 105, 116, 116, 101, 110]⟩ : ByteArray), .string (⟨#[115, 105, 116, 116, 105, 110, 103]⟩ : ByteArray)] rfl (by (try simp only [List.map_toArray, List.map_cons, List.map_nil]); first | done | rfl | (simp only [List.length_drop, List.length_take]; rfl)) ?_; (with_reducible refine (textdiff_Distance.calls (⟨#[107, 105, 116, 116, 101, 110]⟩ : ByteArray) (⟨#[115, 105, 116, 116, 105, 110, 103]⟩ : ByteArray) t105 _ A1.out).mono ?_); rintro e w7 ⟨rfl, hb⟩; refine ⟨_, rfl, ?_⟩; have n0_ := Aside0.mk (below_step (by repeat (first | (with_reducible first | exact HB.out | apply below_alloc | apply pw_below_drewN | apply below_drew1) | exact HB.out)) hb); clear HB; have HB := n0_; clear n0_; (try clear hb); (try clear hb2); (try clear hk); (try clear hi)) | (go_at_call 15; (with_reducible refine (textdiff_Diff.calls (⟨#[97, 98, 99, 100]⟩ : ByteArray) (⟨#[97, 120, 99, 100]⟩ : ByteArray) t106 _ A3.out).mono ?_); rintro e w8 ⟨v107, rfl, ho0, hb⟩; have n0_ := Aside0.mk (Kd.R_lower ho0 (below_size (by repeat (first | (with_reducible first | exact HB.out | apply below_alloc | apply pw_below_drewN | apply below_drew1) | exact HB.out)))); have n1_ := Aside0.mk (below_step (by repeat (first | (with_reducible first | exact HB.out | apply below_alloc | apply pw_below_drewN | apply below_drew1) | exact HB.out)) hb); clear HB; have HO108 := n0_; have HB := n1_; clear n0_ n1_; (try clear hb); (try clear hb2); (try clear hk); (try clear hi); (try clear ho0)) | ((with_reducible refine gate_dst (N := 6) rfl ?_); (try (refine gate_guard (by rfl) ?_; dsimp only)); refine Kd.R_lit k30 _ 30 ?hg (N := 6) ?hd (xs := ([(⟨1, 1, (⟨#[120]⟩ : ByteArray)⟩ : S30)] : List (S30))) (inner := [.int .i64 1, .int .i64 1, .string (⟨#[120]⟩ : ByteArray)]) (ok := fun _ => True) (okp := fun _ => True) ?hr ?hp (fun _ hk => hk) trivial (Below.refl _ _) (Nat.le_refl _) (by simp) ?_; (case hd => rfl); (case hg => rfl); (case hr => first | (go_simp; done) | (go_simp; rfl)); (case hp => exact (Reps.c3 (show Kd.M k30 _ _ _ (⟨1, 1, (⟨#[120]⟩ : ByteArray)⟩ : S30) [.int .i64 1, .int .i64 1, .string (⟨#[120]⟩ : ByteArray)] from (k30_mkM _ _ _ (⟨1, 1, (⟨#[120]⟩ : ByteArray)⟩ : S30) )) (Reps.none _ _))); intro v110 w9 ho10 hb hg_ hnew_; clear hg_ hnew_; (first | rw [← Ny109.out] at ho10 | (simp only [Int.reduceToNat] at ho10; rw [← Ny109.out] at ho10)); have n0_ := Aside0.mk (Kd.R_elder' (by (with_reducible repeat (first | apply Kd.R_alloc | apply Kd.R_drewN | apply Kd.R_drew)); exact HO108.out) (Kd.R_base ho10) hb); have n1_ := Aside0.mk (Kd.R_lower (Kd.R_new' ho10 (Kd.R_lt (by (with_reducible repeat (first | apply Kd.R_alloc | apply Kd.R_drewN | apply Kd.R_drew)); exact HO108.out))) (below_size (by repeat (first | (with_reducible first | exact HB.out | apply below_alloc | apply pw_below_drewN | apply below_drew1) | exact HB.out)))); have n2_ := Aside0.mk (below_step (by repeat (first | (with_reducible first | exact HB.out | apply below_alloc | apply pw_below_drewN | apply below_drew1) | exact HB.out)) hb); clear HO108; clear HB; have HO108 := n0_; have HO111 := n1_; have HB := n2_; clear n0_ n1_ n2_; clear hb ho10; obtain ⟨Ao11, co11, eo11⟩ := Kd.R_slice HO108.out; subst eo11; obtain ⟨Ao12, co12, eo12⟩ := Kd.R_slice HO111.out; subst eo12) | (go_at_call 14; (with_reducible refine (emendateref03_Same.calls k _ _ t106 _ _ y109 true _ ?side1 ?side2 ?side3 ?side4 A4.out).mono ?_); (case side1 => repeat (first | exact (Kd.R_reads' HO108.out).2.2 | (with_reducible refine Kd.C_alloc ?_ _) | (with_reducible refine Kd.C_drewN ?_ _) | (with_reducible refine Kd.C_drew ?_))); (case side2 => exact (Kd.R_reads' HO108.out).2.1); (case side3 => repeat (first | exact (Kd.R_reads' HO111.out).2.2 | (with_reducible refine Kd.C_alloc ?_ _) | (with_reducible refine Kd.C_drewN ?_ _) | (with_reducible refine Kd.C_drew ?_))); (case side4 => exact (Kd.R_reads' HO111.out).2.1); rintro e w' ⟨rfl, ⟨nd, rfl⟩⟩) | (go_at_call 18; (with_reducible refine (textdiff_Hull.calls k (⟨#[97, 98, 99, 100]⟩ : ByteArray) (⟨#[97, 98, 120, 98, 99, 100]⟩ : ByteArray) t113 t114 t115 _ A6.out).mono ?_); rintro e w13 ⟨rfl, hb⟩; have n0_ := Aside0.mk (Kd.R_below (by (with_reducible repeat (first | apply Kd.R_alloc | apply Kd.R_drewN | apply Kd.R_drew)); exact HO108.out) hb); have n1_ := Aside0.mk (Kd.R_below (by (with_reducible repeat (first | apply Kd.R_alloc | apply Kd.R_drewN | apply Kd.R_drew)); exact HO111.out) hb); have n2_ := Aside0.mk (below_step (by repeat (first | (with_reducible first | exact HB.out | apply below_alloc | apply pw_below_drewN | apply below_drew1) | exact HB.out)) hb); clear HO108; clear HO111; clear HB; have HO108 := n0_; have HO111 := n1_; have HB := n2_; clear n0_ n1_ n2_; (try clear hb); (try clear hb2); (try clear hk); (try clear hi)))
      go_ret
      exact ⟨by first | rfl | (simp [errW_none, errW_some] <;> rfl) | (simp [*, errW_none, errW_some] <;> rfl), by repeat (first | (with_reducible first | exact HB.out | apply below_alloc | apply pw_below_drewN | apply below_drew1) | exact HB.out)⟩
    · replace c5 := Bool.eq_false_iff.mpr c5
      subst c5
      have H1 : (some false) = some r := by rw [if_neg (show ¬ (false = true) by decide)] at H; exact H
      clear H
      have H := H1
      clear H1
      obtain rfl := Option.some.inj H
      go_enter Try.func10, Try.ntmps10
      go_wp2_with (first | ((with_reducible refine gate_callee (f := 12) rfl ?_); refine goesL_ (some 1) rfl rfl Try.func12 (by kernel_rfl) rfl #[.string (⟨#[107, 105, 116, 116, 101, 110]⟩ : ByteArray), .string (⟨#[115, 105, 116, 116, 105, 110, 103]⟩ : ByteArray)] rfl (by (try simp only [List.map_toArray, List.map_cons, List.map_nil]); first | done | rfl | (simp only [List.length_drop, List.length_take]; rfl)) ?_; (with_reducible refine (textdiff_Distance.calls (⟨#[107, 105, 116, 116, 101, 110]⟩ : ByteArray) (⟨#[115, 105, 116, 116, 105, 110, 103]⟩ : ByteArray) t105 _ A1.out).mono ?_); rintro e w14 ⟨rfl, hb⟩; refine ⟨_, rfl, ?_⟩; have n0_ := Aside0.mk (below_step (by repeat (first | (with_reducible first | exact HB.out | apply below_alloc | apply pw_below_drewN | apply below_drew1) | exact HB.out)) hb); clear HB; have HB := n0_; clear n0_; (try clear hb); (try clear hb2); (try clear hk); (try clear hi)) | (go_at_call 15; (with_reducible refine (textdiff_Diff.calls (⟨#[97, 98, 99, 100]⟩ : ByteArray) (⟨#[97, 120, 99, 100]⟩ : ByteArray) t106 _ A3.out).mono ?_); rintro e w15 ⟨v107, rfl, ho0, hb⟩; have n0_ := Aside0.mk (Kd.R_lower ho0 (below_size (by repeat (first | (with_reducible first | exact HB.out | apply below_alloc | apply pw_below_drewN | apply below_drew1) | exact HB.out)))); have n1_ := Aside0.mk (below_step (by repeat (first | (with_reducible first | exact HB.out | apply below_alloc | apply pw_below_drewN | apply below_drew1) | exact HB.out)) hb); clear HB; have HO108 := n0_; have HB := n1_; clear n0_ n1_; (try clear hb); (try clear hb2); (try clear hk); (try clear hi); (try clear ho0)) | ((with_reducible refine gate_dst (N := 6) rfl ?_); (try (refine gate_guard (by rfl) ?_; dsimp only)); refine Kd.R_lit k30 _ 30 ?hg (N := 6) ?hd (xs := ([(⟨1, 1, (⟨#[120]⟩ : ByteArray)⟩ : S30)] : List (S30))) (inner := [.int .i64 1, .int .i64 1, .string (⟨#[120]⟩ : ByteArray)]) (ok := fun _ => True) (okp := fun _ => True) ?hr ?hp (fun _ hk => hk) trivial (Below.refl _ _) (Nat.le_refl _) (by simp) ?_; (case hd => rfl); (case hg => rfl); (case hr => first | (go_simp; done) | (go_simp; rfl)); (case hp => exact (Reps.c3 (show Kd.M k30 _ _ _ (⟨1, 1, (⟨#[120]⟩ : ByteArray)⟩ : S30) [.int .i64 1, .int .i64 1, .string (⟨#[120]⟩ : ByteArray)] from (k30_mkM _ _ _ (⟨1, 1, (⟨#[120]⟩ : ByteArray)⟩ : S30) )) (Reps.none _ _))); intro v110 w16 ho17 hb hg_ hnew_; clear hg_ hnew_; (first | rw [← Ny109.out] at ho17 | (simp only [Int.reduceToNat] at ho17; rw [← Ny109.out] at ho17)); have n0_ := Aside0.mk (Kd.R_elder' (by (with_reducible repeat (first | apply Kd.R_alloc | apply Kd.R_drewN | apply Kd.R_drew)); exact HO108.out) (Kd.R_base ho17) hb); have n1_ := Aside0.mk (Kd.R_lower (Kd.R_new' ho17 (Kd.R_lt (by (with_reducible repeat (first | apply Kd.R_alloc | apply Kd.R_drewN | apply Kd.R_drew)); exact HO108.out))) (below_size (by repeat (first | (with_reducible first | exact HB.out | apply below_alloc | apply pw_below_drewN | apply below_drew1) | exact HB.out)))); have n2_ := Aside0.mk (below_step (by repeat (first | (with_reducible first | exact HB.out | apply below_alloc | apply pw_below_drewN | apply below_drew1) | exact HB.out)) hb); clear HO108; clear HB; have HO108 := n0_; have HO111 := n1_; have HB := n2_; clear n0_ n1_ n2_; clear hb ho17; obtain ⟨Ao18, co18, eo18⟩ := Kd.R_slice HO108.out; subst eo18; obtain ⟨Ao19, co19, eo19⟩ := Kd.R_slice HO111.out; subst eo19) | (go_at_call 14; (with_reducible refine (emendateref03_Same.calls k _ _ t106 _ _ y109 false _ ?side1 ?side2 ?side3 ?side4 A4.out).mono ?_); (case side1 => repeat (first | exact (Kd.R_reads' HO108.out).2.2 | (with_reducible refine Kd.C_alloc ?_ _) | (with_reducible refine Kd.C_drewN ?_ _) | (with_reducible refine Kd.C_drew ?_))); (case side2 => exact (Kd.R_reads' HO108.out).2.1); (case side3 => repeat (first | exact (Kd.R_reads' HO111.out).2.2 | (with_reducible refine Kd.C_alloc ?_ _) | (with_reducible refine Kd.C_drewN ?_ _) | (with_reducible refine Kd.C_drew ?_))); (case side4 => exact (Kd.R_reads' HO111.out).2.1); rintro e w' ⟨rfl, ⟨nd, rfl⟩⟩))
      go_ret
      exact ⟨by first | rfl | (simp [errW_none, errW_some] <;> rfl) | (simp [*, errW_none, errW_some] <;> rfl), by repeat (first | (with_reducible first | exact HB.out | apply below_alloc | apply pw_below_drewN | apply below_drew1) | exact HB.out)⟩
  · rw [if_neg c2] at H
    have c2b0 : (t105 == 5) = false := beq_eq_false_iff_ne.mpr c2
    have c2b1 : (t105 != 5) = true := bne_iff_ne.mpr c2
    obtain rfl := Option.some.inj H
    go_enter Try.func10, Try.ntmps10
    go_wp2_with (first | ((with_reducible refine gate_callee (f := 12) rfl ?_); refine goesL_ (some 1) rfl rfl Try.func12 (by kernel_rfl) rfl #[.string (⟨#[107, 105, 116, 116, 101, 110]⟩ : ByteArray), .string (⟨#[115, 105, 116, 116, 105, 110, 103]⟩ : ByteArray)] rfl (by (try simp only [List.map_toArray, List.map_cons, List.map_nil]); first | done | rfl | (simp only [List.length_drop, List.length_take]; rfl)) ?_; (with_reducible refine (textdiff_Distance.calls (⟨#[107, 105, 116, 116, 101, 110]⟩ : ByteArray) (⟨#[115, 105, 116, 116, 105, 110, 103]⟩ : ByteArray) t105 _ A1.out).mono ?_); rintro e w20 ⟨rfl, hb⟩; refine ⟨_, rfl, ?_⟩; have n0_ := Aside0.mk (below_step (by repeat (first | (with_reducible first | exact HB.out | apply below_alloc | apply pw_below_drewN | apply below_drew1) | exact HB.out)) hb); clear HB; have HB := n0_; clear n0_; (try clear hb); (try clear hb2); (try clear hk); (try clear hi)))
    go_ret
    exact ⟨by first | rfl | (simp [errW_none, errW_some] <;> rfl) | (simp [*, errW_none, errW_some] <;> rfl), by repeat (first | (with_reducible first | exact HB.out | apply below_alloc | apply pw_below_drewN | apply below_drew1) | exact HB.out)⟩

end Go.Proofs.Ythhgfagnallcnaa.PA
