/- A law of the rope: its call answers true, for all arguments. -/
import Derived.Test.YtmoceagbmgoijaaLox
import Derived.KernelRfl
namespace Go.Proofs.Ytmoceagbmgoijaa.Rop
open Go.RowKit Go.Proofs.YtmoceagbmgoijaaW.PrintWords Go.Proofs.YtmoceagbmgoijaaW.PrintLast Go.Proofs.YtmoceagbmgoijaaW.PrintMore Go.Proofs.Ytmoceagbmgoijaa.Tre Go.Proofs.Ytmoceagbmgoijaa.PA
attribute [local go_sem] max2_int min2_int max_two min_two max_three min_three max_four min_four
set_option linter.unusedVariables false
set_option linter.unusedSimpArgs false

set_option maxHeartbeats 8000000 in
set_option maxRecDepth 100000 in
theorem replace_law (s0 : ByteArray) (A D : Int) (ins : ByteArray) (w : World) : Calls Try.prog 5 #[.string s0, .agg #[.int .i64 A, .int .i64 D, .string ins]] w fun e w' => e = .returned (.bool true) ∧ Below w.heap.size w w' := by
  rcases (by omega : 1000 < s0.size ∨ (¬ 1000 < s0.size ∧ 1000 < ins.size) ∨ (¬ 1000 < s0.size ∧ ¬ 1000 < ins.size)) with c | ⟨c, d⟩ | ⟨c, d⟩
  · have c1 : decide (1000 < (s0.size : Int)) = true := decide_eq_true (by omega)
    have c1x : decide (1000 < s0.size) = true := decide_eq_true c
    go_enter Try.func5, Try.ntmps5
    go_wp2_with (go_at_call 11; refine (awake_any _).mono ?_; rintro e x1 ⟨rfl, h⟩)
    go_ret
    exact ⟨rfl, (bal _ _).trans (h.mono (by rw [hsz]; omega))⟩
  · have c1 : decide (1000 < (s0.size : Int)) = false := decide_eq_false (by omega)
    have c1x : decide (1000 < s0.size) = false := decide_eq_false c
    have d1 : decide (1000 < (ins.size : Int)) = true := decide_eq_true (by omega)
    have d1x : decide (1000 < ins.size) = true := decide_eq_true d
    go_enter Try.func5, Try.ntmps5
    go_wp2_with (go_at_call 11; refine (awake_any _).mono ?_; rintro e x1 ⟨rfl, h⟩)
    go_ret
    exact ⟨rfl, (bal _ _).trans (h.mono (by rw [hsz]; omega))⟩
  · have c1 : decide (1000 < (s0.size : Int)) = false := decide_eq_false (by omega)
    have c1x : decide (1000 < s0.size) = false := decide_eq_false c
    have d1 : decide (1000 < (ins.size : Int)) = false := decide_eq_false (by omega)
    have d1x : decide (1000 < ins.size) = false := decide_eq_false d
    have Z : Aside0 (s0.size ≤ 1000 ∧ ins.size ≤ 1000) := Aside0.mk ⟨by omega, by omega⟩
    have PD := Px.door w A D ins
    obtain ⟨X, hX⟩ : ∃ X, w.alloc (.cells #[.int .i64 A, .int .i64 D, .string ins] 32) = X := ⟨_, rfl⟩
    rw [hX] at PD
    obtain ⟨e0, e1, e2⟩ := PD.cells
    have P0 := Aside0.mk (PD.below (below_drew (Below.refl _ X)))
    clear c d PD
    go_enter Try.func5, Try.ntmps5
    go_wp2_with (fail)
    refine start_ (n := 10) (S := fun w' => w'.cell? ⟨w.heap.size, 0, none⟩ = some (.int .i64 A) ∧ w'.cell? ⟨w.heap.size, 1, none⟩ = some (.int .i64 D) ∧ w'.cell? ⟨w.heap.size, 2, none⟩ = some (.string ins)) (ds := []) #[false, false, false, false, false, false, false, false, false, false] (by kernel_rfl) rfl rfl P0.out.cells (fun hHeld => ?_)
    refine with_tab (T := rtab .any (opsOf Try.f5 3)) rfl (fun HT_ => ?_)
    generalize X.drew = X1 at P0 hHeld ⊢
    refine pure_ (i := 0) (N := some 20) (v := ?_) (a' := ?_) #[true, false, false, false, false, false, false, false, false, false] rfl rfl (any_of HT_.out (by kernel_rfl)) (fun _ _ _ h => h) (Or.inl ⟨by rfl, ?_⟩) ?_ ?_
    rotate_left
    · intro w'
      go_simp
      with_reducible rfl
    rotate_left
    · simp only [Act.put, List.setIfInBounds_toArray, List.set_cons_zero, List.set_cons_succ, i64_w, i32_w]
      rfl
    refine take_ (i := 2) (N := some 22) (v := ?_) (a' := ?_) #[true, false, true, false, false, false, false, false, false, false] rfl rfl (take_of HT_.out (by kernel_rfl)) (fun _ _ _ h => h) (Or.inl ⟨by rfl, ?_⟩) hHeld ?_ ?_
    rotate_left
    · rintro w' ⟨s0, s1, s2⟩
      go_simp
      with_reducible rfl
    rotate_left
    · simp only [Act.put, List.setIfInBounds_toArray, List.set_cons_zero, List.set_cons_succ, i64_w, i32_w]
      rfl
    refine join_ (σ := Option Addr × Option Addr × Nat) 2 #[true, true, true, true, true, true, true, true, false, false] (fun s => [(21, .agg #[.pointer s.1]), (23, .tuple #[.agg #[.pointer s.2.1], .int .i64 (rpC s0 A D)]), (19, .tuple #[.agg #[.pointer s.2.1], .int .i64 (rpC s0 A D)]), (24, .agg #[.pointer s.2.1]), (25, .int .i64 (rpC s0 A D)), (5, .pointer (some ⟨s.2.2, 0, none⟩))]) (fun s y => Aside0 (Px w w.heap.size A D ins y ∧ Cel y s.2.2 none none ∧ w.heap.size ≤ s.2.2 ∧ ∃ o, At y (.pointer s.2.1) o ∧ txt o = rpP s0 A D ins ∧ Ok o)) ?_ ?_
    rotate_left
    · intro hCont
      refine two_ (i := 1) (j := 7) (Ni := some 21) (Nj := some 5) #[true, true, true, false, false, false, false, false, false, false] #[true, false, true, false, false, false, false, true, false, false] rfl rfl rfl rfl (by kernel_rfl) (by decide) (by decide) (fun K hK => ?_) (fun K hK => ?_)
      · skip
        refine goes_ Try.func13 (by kernel_rfl) rfl #[.string s0] (by rfl) rfl rfl (by (try simp only [List.map_toArray, List.map_cons, List.map_nil]); first | done | rfl) ?_
        refine (new_any s0 (by have := Z.out; omega) _).mono ?_
        rintro e y1 ⟨v1, o1, rfl, a1, t1, k1, h⟩
        obtain ⟨q1, rfl⟩ := a1.ptr
        have P1 := Aside0.mk (P0.out.below h)
        have A1 := Aside0.mk a1
        have T1 := Aside0.mk t1
        have K1 := Aside0.mk k1
        clear h a1 t1 k1
        refine ⟨_, rfl, ?_⟩
        refine hK.out _ _ P1.out.cells (fun hHeld => ?_)
        clear hK K
        refine norm_ (a' := ?_) ?_ ?_
        rotate_left
        · show Act.put _ (some 21) _ = _
          simp only [Act.put, List.setIfInBounds_toArray, List.set_cons_zero, List.set_cons_succ, i64_w, i32_w]
          rfl
        refine two_ (i := 3) (j := 7) (Ni := some 23) (Nj := some 5) #[true, true, true, true, false, false, false, false, false, false] #[true, true, true, false, false, false, false, true, false, false] rfl rfl rfl rfl (by kernel_rfl) (by decide) (by decide) (fun K hK => ?_) (fun K hK => ?_)
        · skip
          refine goes_ Try.func15 (by kernel_rfl) rfl #[.agg #[.pointer q1], .agg #[.int .i64 A, .int .i64 D, .string ins]] (by rfl) rfl rfl (by (try simp only [List.map_toArray, List.map_cons, List.map_nil]); first | done | rfl) ?_
          refine (replace_all o1 _ _ A1.out K1.out (by have := Z.out; rw [← txt_size, T1.out]; omega) A D ins (by have := Z.out; omega)).mono ?_
          rw [T1.out]
          rintro e y2 ⟨v2, o2, rfl, a2, t2, k2, h⟩
          obtain ⟨q2, rfl⟩ := a2.ptr
          have P2 := Aside0.mk (P1.out.below h)
          have R2 := Aside0.mk a2
          have T2 := Aside0.mk t2
          have K2 := Aside0.mk k2
          clear h a2 t2 k2
          refine ⟨_, rfl, ?_⟩
          refine hK.out _ _ P2.out.cells (fun hHeld => ?_)
          clear hK K
          refine norm_ (a' := ?_) ?_ ?_
          rotate_left
          · show Act.put _ (some 23) _ = _
            simp only [Act.put, List.setIfInBounds_toArray, List.set_cons_zero, List.set_cons_succ, i64_w, i32_w]
            rfl
          refine pure_ (i := 4) (N := some 19) (v := ?_) (a' := ?_) #[true, true, true, true, true, false, false, false, false, false] rfl rfl (any_of HT_.out (by kernel_rfl)) (fun _ _ _ h => h) (Or.inl ⟨by rfl, ?_⟩) ?_ ?_
          rotate_left
          · intro w'
            go_simp
            with_reducible rfl
          rotate_left
          · simp only [Act.put, List.setIfInBounds_toArray, List.set_cons_zero, List.set_cons_succ, i64_w, i32_w]
            rfl
          refine pure_ (i := 5) (N := some 24) (v := ?_) (a' := ?_) #[true, true, true, true, true, true, false, false, false, false] rfl rfl (any_of HT_.out (by kernel_rfl)) (fun _ _ _ h => h) (Or.inl ⟨by rfl, ?_⟩) ?_ ?_
          rotate_left
          · intro w'
            go_simp
            with_reducible rfl
          rotate_left
          · simp only [Act.put, List.setIfInBounds_toArray, List.set_cons_zero, List.set_cons_succ, i64_w, i32_w]
            rfl
          refine pure_ (i := 6) (N := some 25) (v := ?_) (a' := ?_) #[true, true, true, true, true, true, true, false, false, false] rfl rfl (any_of HT_.out (by kernel_rfl)) (fun _ _ _ h => h) (Or.inl ⟨by rfl, ?_⟩) ?_ ?_
          rotate_left
          · intro w'
            go_simp
            with_reducible rfl
          rotate_left
          · simp only [Act.put, List.setIfInBounds_toArray, List.set_cons_zero, List.set_cons_succ, i64_w, i32_w]
            rfl
          refine one_ (i := 7) (N := some 5) #[true, true, true, true, true, true, true, true, false, false] rfl rfl (one_of HT_.out (by kernel_rfl)) (by decide) (fun K hK => ?_)
          refine value_ (w1 := ?_) (v := ?_) (by rfl) rfl ?_ ?_
          rotate_left 2
          · go_simp
            first | (constructor <;> rfl) | rfl
          have C3 := Aside0.mk (Cel.new (x := y2) (p := none) (o := none) rfl)
          have P3 := Aside0.mk (P2.out.below (bal y2 (.cells #[.pointer none] 26)))
          have BB := Aside0.mk (P2.out.b.size)
          have R3 := Aside0.mk (R2.out.alloc (.cells #[.pointer none] 26))
          obtain ⟨z3, hz3⟩ : ∃ z, y2.alloc (.cells #[.pointer none] 26) = z := ⟨_, rfl⟩
          rw [hz3] at P3 C3 R3 ⊢
          clear hz3
          refine hK.out _ _ P3.out.cells (fun hHeld => ?_)
          clear hK K
          refine norm_ (a' := ?_) ?_ ?_
          rotate_left
          · show Act.put _ (some 5) _ = _
            simp only [Act.put, List.setIfInBounds_toArray, List.set_cons_zero, List.set_cons_succ, i64_w, i32_w]
            rfl
          exact norm_ (by simp only [putAll, Act.put, List.setIfInBounds_toArray, List.set_cons_zero, List.set_cons_succ]) (hCont (q1, q2, y2.heap.size) _ ⟨P3.out, C3.out, BB.out, o2, R3.out, T2.out, K2.out⟩)
        · skip
          refine value_ (w1 := ?_) (v := ?_) (by rfl) rfl ?_ ?_
          rotate_left 2
          · go_simp
            first | (constructor <;> rfl) | rfl
          have C4 := Aside0.mk (Cel.new (x := y1) (p := none) (o := none) rfl)
          have P4 := Aside0.mk (P1.out.below (bal y1 (.cells #[.pointer none] 26)))
          have BB := Aside0.mk (P1.out.b.size)
          have A4 := Aside0.mk (A1.out.alloc (.cells #[.pointer none] 26))
          obtain ⟨z4, hz4⟩ : ∃ z, y1.alloc (.cells #[.pointer none] 26) = z := ⟨_, rfl⟩
          rw [hz4] at P4 C4 A4 ⊢
          clear hz4
          refine hK.out _ _ P4.out.cells (fun hHeld => ?_)
          clear hK K
          refine norm_ (a' := ?_) ?_ ?_
          rotate_left
          · show Act.put _ (some 5) _ = _
            simp only [Act.put, List.setIfInBounds_toArray, List.set_cons_zero, List.set_cons_succ, i64_w, i32_w]
            rfl
          refine one_ (i := 3) (N := some 23) #[true, true, true, true, false, false, false, true, false, false] rfl rfl (one_of HT_.out (by kernel_rfl)) (by decide) (fun K hK => ?_)
          refine goes_ Try.func15 (by kernel_rfl) rfl #[.agg #[.pointer q1], .agg #[.int .i64 A, .int .i64 D, .string ins]] (by rfl) rfl rfl (by (try simp only [List.map_toArray, List.map_cons, List.map_nil]); first | done | rfl) ?_
          refine (replace_all o1 _ _ A4.out K1.out (by have := Z.out; rw [← txt_size, T1.out]; omega) A D ins (by have := Z.out; omega)).mono ?_
          rw [T1.out]
          rintro e y5 ⟨v2, o2, rfl, a2, t2, k2, h⟩
          obtain ⟨q2, rfl⟩ := a2.ptr
          have P5 := Aside0.mk (P4.out.below h)
          have C5 := Aside0.mk (C4.out.below h)
          have R5 := Aside0.mk a2
          have T2 := Aside0.mk t2
          have K2 := Aside0.mk k2
          clear h a2 t2 k2
          refine ⟨_, rfl, ?_⟩
          refine hK.out _ _ P5.out.cells (fun hHeld => ?_)
          clear hK K
          refine norm_ (a' := ?_) ?_ ?_
          rotate_left
          · show Act.put _ (some 23) _ = _
            simp only [Act.put, List.setIfInBounds_toArray, List.set_cons_zero, List.set_cons_succ, i64_w, i32_w]
            rfl
          refine pure_ (i := 4) (N := some 19) (v := ?_) (a' := ?_) #[true, true, true, true, true, false, false, true, false, false] rfl rfl (any_of HT_.out (by kernel_rfl)) (fun _ _ _ h => h) (Or.inl ⟨by rfl, ?_⟩) ?_ ?_
          rotate_left
          · intro w'
            go_simp
            with_reducible rfl
          rotate_left
          · simp only [Act.put, List.setIfInBounds_toArray, List.set_cons_zero, List.set_cons_succ, i64_w, i32_w]
            rfl
          refine pure_ (i := 5) (N := some 24) (v := ?_) (a' := ?_) #[true, true, true, true, true, true, false, true, false, false] rfl rfl (any_of HT_.out (by kernel_rfl)) (fun _ _ _ h => h) (Or.inl ⟨by rfl, ?_⟩) ?_ ?_
          rotate_left
          · intro w'
            go_simp
            with_reducible rfl
          rotate_left
          · simp only [Act.put, List.setIfInBounds_toArray, List.set_cons_zero, List.set_cons_succ, i64_w, i32_w]
            rfl
          refine pure_ (i := 6) (N := some 25) (v := ?_) (a' := ?_) #[true, true, true, true, true, true, true, true, false, false] rfl rfl (any_of HT_.out (by kernel_rfl)) (fun _ _ _ h => h) (Or.inl ⟨by rfl, ?_⟩) ?_ ?_
          rotate_left
          · intro w'
            go_simp
            with_reducible rfl
          rotate_left
          · simp only [Act.put, List.setIfInBounds_toArray, List.set_cons_zero, List.set_cons_succ, i64_w, i32_w]
            rfl
          exact norm_ (by simp only [putAll, Act.put, List.setIfInBounds_toArray, List.set_cons_zero, List.set_cons_succ]) (hCont (q1, q2, y1.heap.size) _ ⟨P5.out, C5.out, BB.out, o2, R5.out, T2.out, K2.out⟩)
      · skip
        refine value_ (w1 := ?_) (v := ?_) (by rfl) rfl ?_ ?_
        rotate_left 2
        · go_simp
          first | (constructor <;> rfl) | rfl
        have C6 := Aside0.mk (Cel.new (x := X1) (p := none) (o := none) rfl)
        have P6 := Aside0.mk (P0.out.below (bal X1 (.cells #[.pointer none] 26)))
        have BB := Aside0.mk (P0.out.b.size)
        obtain ⟨z6, hz6⟩ : ∃ z, X1.alloc (.cells #[.pointer none] 26) = z := ⟨_, rfl⟩
        rw [hz6] at P6 C6 ⊢
        clear hz6
        refine hK.out _ _ P6.out.cells (fun hHeld => ?_)
        clear hK K
        refine norm_ (a' := ?_) ?_ ?_
        rotate_left
        · show Act.put _ (some 5) _ = _
          simp only [Act.put, List.setIfInBounds_toArray, List.set_cons_zero, List.set_cons_succ, i64_w, i32_w]
          rfl
        refine one_ (i := 1) (N := some 21) #[true, true, true, false, false, false, false, true, false, false] rfl rfl (one_of HT_.out (by kernel_rfl)) (by decide) (fun K hK => ?_)
        refine goes_ Try.func13 (by kernel_rfl) rfl #[.string s0] (by rfl) rfl rfl (by (try simp only [List.map_toArray, List.map_cons, List.map_nil]); first | done | rfl) ?_
        refine (new_any s0 (by have := Z.out; omega) _).mono ?_
        rintro e y7 ⟨v1, o1, rfl, a1, t1, k1, h⟩
        obtain ⟨q1, rfl⟩ := a1.ptr
        have P7 := Aside0.mk (P6.out.below h)
        have C7 := Aside0.mk (C6.out.below h)
        have A7 := Aside0.mk a1
        have T1 := Aside0.mk t1
        have K1 := Aside0.mk k1
        clear h a1 t1 k1
        refine ⟨_, rfl, ?_⟩
        refine hK.out _ _ P7.out.cells (fun hHeld => ?_)
        clear hK K
        refine norm_ (a' := ?_) ?_ ?_
        rotate_left
        · show Act.put _ (some 21) _ = _
          simp only [Act.put, List.setIfInBounds_toArray, List.set_cons_zero, List.set_cons_succ, i64_w, i32_w]
          rfl
        refine one_ (i := 3) (N := some 23) #[true, true, true, true, false, false, false, true, false, false] rfl rfl (one_of HT_.out (by kernel_rfl)) (by decide) (fun K hK => ?_)
        refine goes_ Try.func15 (by kernel_rfl) rfl #[.agg #[.pointer q1], .agg #[.int .i64 A, .int .i64 D, .string ins]] (by rfl) rfl rfl (by (try simp only [List.map_toArray, List.map_cons, List.map_nil]); first | done | rfl) ?_
        refine (replace_all o1 _ _ A7.out K1.out (by have := Z.out; rw [← txt_size, T1.out]; omega) A D ins (by have := Z.out; omega)).mono ?_
        rw [T1.out]
        rintro e y8 ⟨v2, o2, rfl, a2, t2, k2, h⟩
        obtain ⟨q2, rfl⟩ := a2.ptr
        have P8 := Aside0.mk (P7.out.below h)
        have C8 := Aside0.mk (C7.out.below h)
        have R8 := Aside0.mk a2
        have T2 := Aside0.mk t2
        have K2 := Aside0.mk k2
        clear h a2 t2 k2
        refine ⟨_, rfl, ?_⟩
        refine hK.out _ _ P8.out.cells (fun hHeld => ?_)
        clear hK K
        refine norm_ (a' := ?_) ?_ ?_
        rotate_left
        · show Act.put _ (some 23) _ = _
          simp only [Act.put, List.setIfInBounds_toArray, List.set_cons_zero, List.set_cons_succ, i64_w, i32_w]
          rfl
        refine pure_ (i := 4) (N := some 19) (v := ?_) (a' := ?_) #[true, true, true, true, true, false, false, true, false, false] rfl rfl (any_of HT_.out (by kernel_rfl)) (fun _ _ _ h => h) (Or.inl ⟨by rfl, ?_⟩) ?_ ?_
        rotate_left
        · intro w'
          go_simp
          with_reducible rfl
        rotate_left
        · simp only [Act.put, List.setIfInBounds_toArray, List.set_cons_zero, List.set_cons_succ, i64_w, i32_w]
          rfl
        refine pure_ (i := 5) (N := some 24) (v := ?_) (a' := ?_) #[true, true, true, true, true, true, false, true, false, false] rfl rfl (any_of HT_.out (by kernel_rfl)) (fun _ _ _ h => h) (Or.inl ⟨by rfl, ?_⟩) ?_ ?_
        rotate_left
        · intro w'
          go_simp
          with_reducible rfl
        rotate_left
        · simp only [Act.put, List.setIfInBounds_toArray, List.set_cons_zero, List.set_cons_succ, i64_w, i32_w]
          rfl
        refine pure_ (i := 6) (N := some 25) (v := ?_) (a' := ?_) #[true, true, true, true, true, true, true, true, false, false] rfl rfl (any_of HT_.out (by kernel_rfl)) (fun _ _ _ h => h) (Or.inl ⟨by rfl, ?_⟩) ?_ ?_
        rotate_left
        · intro w'
          go_simp
          with_reducible rfl
        rotate_left
        · simp only [Act.put, List.setIfInBounds_toArray, List.set_cons_zero, List.set_cons_succ, i64_w, i32_w]
          rfl
        exact norm_ (by simp only [putAll, Act.put, List.setIfInBounds_toArray, List.set_cons_zero, List.set_cons_succ]) (hCont (q1, q2, X1.heap.size) _ ⟨P8.out, C8.out, BB.out, o2, R8.out, T2.out, K2.out⟩)
    rintro ⟨q1, q2, b⟩ y ⟨hP, hC, hbb, o2, hA, hT, hK2⟩
    refine norm_ (a' := ?_) ?_ ?_
    rotate_left
    · simp only [putAll, Act.put, List.setIfInBounds_toArray, List.set_cons_zero, List.set_cons_succ]
      rfl
    refine one_ (i := 8) (N := none) #[true, true, true, true, true, true, true, true, true, false] rfl rfl (one_of HT_.out (by kernel_rfl)) (by decide) (fun K hK => ?_)
    have hcc := hC.cell
    have hff := fun q => blk_frozen hC.blk q
    refine skip_ (w1 := ?_) (by rfl) rfl ?_ ?_
    rotate_left
    · go_simp
      rfl
    have PZ := Aside0.mk (Px.set hP hC.blk hbb (.pointer q2))
    have CZ := Aside0.mk (Cel.put hC hA)
    have TZ := Aside0.mk hT
    have KZ := Aside0.mk hK2
    clear hP hC hbb hA hT hK2 hcc hff
    refine hK.out _ _ PZ.out.cells (fun hHeld => ?_)
    clear hK K
    obtain ⟨Y, hY⟩ : ∃ Y, y.setCell ⟨b, 0, none⟩ (.pointer q2) = Y := ⟨_, rfl⟩
    rw [hY] at PZ CZ hHeld ⊢
    clear hY
    refine pure_ (i := 9) (N := some 6) (v := ?_) (a' := ?_) #[true, true, true, true, true, true, true, true, true, true] rfl rfl (any_of HT_.out (by kernel_rfl)) (fun _ _ _ h => h) (Or.inl ⟨by rfl, ?_⟩) ?_ ?_
    rotate_left
    · intro w'
      go_simp
      with_reducible rfl
    rotate_left
    · simp only [Act.put, List.setIfInBounds_toArray, List.set_cons_zero, List.set_cons_succ, i64_w, i32_w]
      rfl
    refine done_ (done_of HT_.out (by kernel_rfl)) ?_
    have hcY := CZ.out.cell
    obtain ⟨f0, f1, f2⟩ := PZ.out.cells
    go_wp2_with (go_at_call 16; refine (refReplace_all s0 (by have := Z.out; omega) A D ins (by have := Z.out; omega) _).mono ?_; rintro e x6 ⟨rfl, h⟩; have C6 := Aside0.mk (CZ.out.below h); have P6 := Aside0.mk (PZ.out.below h); have c6 := C6.out.cell; clear h)
    go_wp2_with (go_at_call 11; refine (awake_any _).mono ?_; rintro e x7 ⟨rfl, h⟩; have C7 := Aside0.mk (C6.out.below h); have P7 := Aside0.mk (P6.out.below h); have c7 := C7.out.cell; clear h)
    have HH := Aside0.mk (holds_txt (s := rpP s0 A D ins) _ _ _ C7.out.at_ KZ.out TZ.out (by have := Z.out; have := rpP_size s0 A D ins; omega))
    go_wp2_with (go_at_call 12; refine HH.out.mono ?_; rintro e x8 ⟨rfl, h⟩; have P8 := Aside0.mk (P7.out.below h); clear h)
    go_wp2
    go_ret
    exact ⟨rfl, P8.out.b⟩
end Go.Proofs.Ytmoceagbmgoijaa.Rop
