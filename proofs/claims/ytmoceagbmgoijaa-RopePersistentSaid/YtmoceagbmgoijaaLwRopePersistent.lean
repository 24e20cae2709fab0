/- A law of the rope: its call answers true, for all arguments. -/
import Derived.Test.YtmoceagbmgoijaaLox
import Derived.KernelRfl
namespace Go.Proofs.Ytmoceagbmgoijaa.Rop
open Go.RowKit Go.Proofs.YtmoceagbmgoijaaW.PrintWords Go.Proofs.YtmoceagbmgoijaaW.PrintLast Go.Proofs.YtmoceagbmgoijaaW.PrintMore Go.Proofs.Ytmoceagbmgoijaa.Tre Go.Proofs.Ytmoceagbmgoijaa.PA
attribute [local go_sem] max2_int min2_int max_two min_two max_three min_three max_four min_four
set_option linter.unusedVariables false
set_option linter.unusedSimpArgs false

theorem Fr.set {w x : World} {L : List (Nat × Option Addr × Option T)} (h : Fr w L x) {b : Nat} {cs : Array Value} (hb : x.heap[b]? = some (.cells cs 26 (0, 0))) (hw : w.heap.size ≤ b) (hn : ∀ c ∈ L, c.1 ≠ b) (u : Value) : Fr w L (x.setCell ⟨b, 0, none⟩ u) :=
  ⟨h.b.setCell (p := ⟨b, 0, none⟩) hw u, fun c hc => ⟨blk_far (h.c c hc).blk (p := ⟨b, 0, none⟩) (hn c hc) u, (h.c c hc).at_.set hb (by decide) 0 u⟩⟩
theorem refFits_all (s : ByteArray) (hs : s.size ≤ 100000) (A D : Int) (ins : ByteArray) (w : World) :
    Calls Try.prog 21 #[.int .i64 s.size, .agg #[.int .i64 A, .int .i64 D, .string ins]] w fun e w' => e = .returned (.bool (decide (rpG s A D))) ∧ Below w.heap.size w w' := by
  refine emendateref01_Fits.calls s.size A D ins _ w ?_
  unfold emendateref01_Fits.f
  by_cases h1 : A ≥ 0
  · rw [if_pos h1]
    by_cases h2 : D ≥ 0
    · rw [if_pos h2]
      by_cases h3 : A ≤ (s.size : Int)
      · have w1 : wrap64 ((s.size : Int) - A) = (s.size : Int) - A := by unfold wrap64; omega
        rw [if_pos h3, w1]
        congr 1
        exact decide_eq_decide.2 ⟨fun h => ⟨h1, h2, h3, h⟩, fun h => h.2.2.2⟩
      · rw [if_neg h3, decide_eq_false (fun h : rpG s A D => h3 h.2.2.1)]
    · rw [if_neg h2, decide_eq_false (fun h : rpG s A D => h2 h.2.1)]
  · rw [if_neg h1, decide_eq_false (fun h : rpG s A D => h1 h.1)]
theorem rpP_good {s : ByteArray} {A D : Int} {ins : ByteArray} (h : rpG s A D) : rpP s A D ins = (s.extract 0 A.toNat ++ ins) ++ s.extract (A.toNat + D.toNat) s.size := by unfold rpP; rw [if_pos h]
/-- the inverse edit restores the text -/
theorem persist_eq (s ins : ByteArray) (A D : Nat) (h : A + D ≤ s.size) : rpC (rpP s A D ins) A ins.size = 0 ∧ rpP (rpP s A D ins) A ins.size (s.extract A (A + D)) = s := by
  have g : rpG s A D := ⟨by omega, by omega, by omega, by omega⟩
  have e : rpP s A D ins = (s.extract 0 A ++ ins) ++ s.extract (A + D) s.size := by unfold rpP; rw [if_pos g]; rfl
  have s1 : (s.extract 0 A).size = A := by rw [ByteArray.size_extract]; omega
  have s2 : (s.extract (A + D) s.size).size = s.size - (A + D) := by rw [ByteArray.size_extract]; omega
  have s3 : (s.extract 0 A ++ ins).size = A + ins.size := by rw [ByteArray.size_append, s1]
  have sq : (rpP s A D ins).size = A + ins.size + (s.size - (A + D)) := by rw [e, ByteArray.size_append, s3, s2]
  have g2 : rpG (rpP s A D ins) A ins.size := ⟨by omega, by omega, by rw [sq]; omega, by rw [sq]; omega⟩
  refine ⟨by unfold rpC; rw [if_pos g2], ?_⟩
  have e2 : rpP (rpP s A D ins) A ins.size (s.extract A (A + D)) = ((rpP s A D ins).extract 0 A ++ s.extract A (A + D)) ++ (rpP s A D ins).extract (A + ins.size) (rpP s A D ins).size := by
    exact rpP_good g2
  have x1 : (rpP s A D ins).extract 0 A = s.extract 0 A := by
    rw [e, ext_left _ _ (by rw [s3]; omega), ext_left _ _ (by rw [s1]; omega), ext_all _ (by rw [s1]; omega)]
  have x2 : (rpP s A D ins).extract (A + ins.size) (rpP s A D ins).size = s.extract (A + D) s.size := by
    rw [sq, e, ext_right _ _ (by rw [s3]; omega), s3, Nat.sub_self, ext_all _ (by rw [s2]; omega)]
  rw [e2, x1, x2]
  apply B_inj
  rw [B_app, B_app, B_ext, B_ext, B_ext, List.drop_zero, List.take_of_length_le (l := B s) (i := s.size) (by rw [B_len]; omega)]
  have t : (B s).take A = ((B s).take (A + D)).take A := by rw [List.take_take, Nat.min_eq_left (by omega)]
  rw [t, List.take_append_drop, List.take_append_drop]
set_option maxHeartbeats 8000000 in
set_option maxRecDepth 100000 in
theorem persist_law (s0 : ByteArray) (Ai Di : Int) (ins : ByteArray) (w : World) : Calls Try.prog 7 #[.string s0, .agg #[.int .i64 Ai, .int .i64 Di, .string ins]] w fun e w' => e = .returned (.bool true) ∧ Below w.heap.size w w' := by
  by_cases c : 1000 < s0.size
  · have c1 : decide (1000 < (s0.size : Int)) = true := decide_eq_true (by omega)
    have c1x : decide (1000 < s0.size) = true := decide_eq_true c
    go_enter Try.func7, Try.ntmps7
    go_wp2_with (go_at_call 11; refine (awake_any _).mono ?_; rintro e x1 ⟨rfl, h⟩)
    go_ret
    exact ⟨rfl, (bal _ _).trans (h.mono (by rw [hsz]; omega))⟩
  have c1 : decide (1000 < (s0.size : Int)) = false := decide_eq_false (by omega)
  have c1x : decide (1000 < s0.size) = false := decide_eq_false c
  by_cases d : 1000 < ins.size
  · have d1 : decide (1000 < (ins.size : Int)) = true := decide_eq_true (by omega)
    have d1x : decide (1000 < ins.size) = true := decide_eq_true d
    go_enter Try.func7, Try.ntmps7
    go_wp2_with (go_at_call 11; refine (awake_any _).mono ?_; rintro e x1 ⟨rfl, h⟩)
    go_ret
    exact ⟨rfl, (bal _ _).trans (h.mono (by rw [hsz]; omega))⟩
  have d1 : decide (1000 < (ins.size : Int)) = false := decide_eq_false (by omega)
  have d1x : decide (1000 < ins.size) = false := decide_eq_false d
  have PD := Px.door w Ai Di ins
  have FT := Aside0.mk (refFits_all s0 (by omega) Ai Di ins (w.alloc (.cells #[.int .i64 Ai, .int .i64 Di, .string ins] 32)))
  obtain ⟨X0, hX0⟩ : ∃ X, w.alloc (.cells #[.int .i64 Ai, .int .i64 Di, .string ins] 32) = X := ⟨_, rfl⟩
  rw [hX0] at PD FT
  obtain ⟨e0, e1, e2⟩ := PD.cells
  by_cases h : rpG s0 Ai Di
  · obtain ⟨h1, h2, h3, h4⟩ := id h
    obtain ⟨A, rfl⟩ : ∃ q : Nat, Ai = q := ⟨Ai.toNat, by omega⟩
    obtain ⟨D, rfl⟩ : ∃ q : Nat, Di = q := ⟨Di.toNat, by omega⟩
    obtain ⟨ad, had⟩ : ∃ ad : Nat, ad = A + D := ⟨_, rfl⟩
    have hadi : (A : Int) + (D : Int) = (ad : Int) := by omega
    have had2 : ad ≤ s0.size := by omega
    have wq := wrapN ad (by omega)
    have wm := wrapM ad (by omega)
    have l0 : (0 ≤ (A : Int)) = True := eq_true (by omega)
    have l1 : ((A : Int) ≤ (ad : Int)) = True := eq_true (by omega)
    have l1x : (A ≤ ad) = True := eq_true (by omega)
    have l2 : ((ad : Int) ≤ (s0.size : Int)) = True := eq_true (by omega)
    have l2x : (ad ≤ s0.size) = True := eq_true had2
    have PE := Aside0.mk (persist_eq s0 ins A D (by omega))
    rw [← had] at PE
    have C0 : Aside0 (rpC s0 A D = 0) := Aside0.mk (by unfold rpC; rw [if_pos h])
    have Z : Aside0 (s0.size ≤ 1000 ∧ ins.size ≤ 1000) := Aside0.mk ⟨by omega, by omega⟩
    have P00 := Aside0.mk PD
    rw [decide_eq_true h] at FT
    clear c d PD h h1 h2 h3 h4 had had2
    go_enter Try.func7, Try.ntmps7
    go_wp2_with (go_at_call 21; refine FT.out.mono ?_; rintro e x0 ⟨rfl, h⟩; have PA := Aside0.mk (P00.out.below h); obtain ⟨f0, f1, f2⟩ := PA.out.cells; clear h)
    go_wp2_with (go_at_call 13; refine (new_any s0 (by have := Z.out; omega) _).mono ?_; rintro e x1 ⟨v1, o1, rfl, a1, t1, k1, h⟩; obtain ⟨p1, rfl⟩ := a1.ptr; have PB := Aside0.mk ((PA.out.below h).below (show Below x1.heap.size x1 ((x1.alloc (.cells #[.pointer none] 26)).setCell ⟨x1.heap.size, 0, none⟩ (.pointer p1)) from (bal _ _).setCell (p := ⟨x1.heap.size, 0, none⟩) (Nat.le_refl _) _)); have CB := Aside0.mk (Cel.fresh a1); have T1 := Aside0.mk t1; have K1 := Aside0.mk k1; obtain ⟨X2, hX2⟩ : ∃ X, (x1.alloc (.cells #[.pointer none] 26)).setCell ⟨x1.heap.size, 0, none⟩ (.pointer p1) = X := ⟨_, rfl⟩; rw [hX2] at PB CB; have cb := CB.out.cell; obtain ⟨g0, g1, g2⟩ := PB.out.cells; clear h a1 t1 k1)
    go_wp2_with (go_at_call 15; refine (replace_all o1 _ _ CB.out.at_ K1.out (by have := Z.out; rw [← txt_size, T1.out]; omega) A D ins (by have := Z.out; omega)).mono ?_; rw [T1.out, C0.out]; rintro e x2 ⟨v2, o2, rfl, a2, t2, k2, h⟩; obtain ⟨p2, rfl⟩ := a2.ptr; have hq : Below x2.heap.size x2 ((x2.alloc (.cells #[.pointer none] 26)).setCell ⟨x2.heap.size, 0, none⟩ (.pointer p2)) := (bal _ _).setCell (p := ⟨x2.heap.size, 0, none⟩) (Nat.le_refl _) _; have PC := Aside0.mk ((PB.out.below h).below hq); have C1 := Aside0.mk ((CB.out.below h).below hq); have C2 := Aside0.mk (Cel.fresh a2); have T2 := Aside0.mk t2; have K2 := Aside0.mk k2; obtain ⟨X, hX⟩ : ∃ X, (x2.alloc (.cells #[.pointer none] 26)).setCell ⟨x2.heap.size, 0, none⟩ (.pointer p2) = X := ⟨_, rfl⟩; rw [hX] at PC C1 C2; clear h a2 t2 k2 hq)
    have P0 := Aside0.mk (PC.out.below (below_drew (Below.refl _ X)))
    have FR : Fr w [(x1.heap.size, p1, o1), (x2.heap.size, p2, o2)] X := ⟨PC.out.b, fun q hq => by
      simp only [List.mem_cons, List.not_mem_nil, or_false] at hq
      rcases hq with rfl | rfl
      · exact C1.out
      · exact C2.out⟩
    have F0 := Aside0.mk (FR.below (below_drew (Below.refl _ X)))
    clear FR
    try go_wp2_with (fail)
    refine start_ (n := 23) (S := fun w' => w'.cell? ⟨w.heap.size, 0, none⟩ = some (.int .i64 A) ∧ w'.cell? ⟨w.heap.size, 1, none⟩ = some (.int .i64 D) ∧ w'.cell? ⟨w.heap.size, 2, none⟩ = some (.string ins) ∧ w'.cell? ⟨x2.heap.size, 0, none⟩ = some (.pointer p2)) (ds := []) #[false, false, false, false, false, false, false, false, false, false, false, false, false, false, false, false, false, false, false, false, false, false, false] (by kernel_rfl) rfl rfl ⟨P0.out.cells.1, P0.out.cells.2.1, P0.out.cells.2.2, (F0.out.get 1 rfl).cell⟩ (fun hHeld => ?_)
    refine with_tab (T := rtab .any (opsOf Try.f7 5)) rfl (fun HT_ => ?_)
    generalize X.drew = X1 at P0 F0 hHeld ⊢
    refine take_ (i := 0) (N := some 36) (v := ?_) (a' := ?_) #[true, false, false, false, false, false, false, false, false, false, false, false, false, false, false, false, false, false, false, false, false, false, false] rfl rfl (take_of HT_.out (by kernel_rfl)) (fun _ _ _ h => h) (Or.inl ⟨by rfl, ?_⟩) hHeld ?_ ?_
    rotate_left
    · rintro w' ⟨s0, s1, s2, s3⟩
      go_simp
      with_reducible rfl
    rotate_left
    · simp only [Act.put, List.setIfInBounds_toArray, List.set_cons_zero, List.set_cons_succ, i64_w, i32_w]
      rfl
    refine pure_ (i := 1) (N := some 37) (v := ?_) (a' := ?_) #[true, true, false, false, false, false, false, false, false, false, false, false, false, false, false, false, false, false, false, false, false, false, false] rfl rfl (any_of HT_.out (by kernel_rfl)) (fun _ _ _ h => h) (Or.inl ⟨by rfl, ?_⟩) ?_ ?_
    rotate_left
    · intro w'
      go_simp
      with_reducible rfl
    rotate_left
    · simp only [Act.put, List.setIfInBounds_toArray, List.set_cons_zero, List.set_cons_succ, i64_w, i32_w]
      rfl
    refine take_ (i := 2) (N := some 38) (v := ?_) (a' := ?_) #[true, true, true, false, false, false, false, false, false, false, false, false, false, false, false, false, false, false, false, false, false, false, false] rfl rfl (take_of HT_.out (by kernel_rfl)) (fun _ _ _ h => h) (Or.inl ⟨by rfl, ?_⟩) hHeld ?_ ?_
    rotate_left
    · rintro w' ⟨s0, s1, s2, s3⟩
      go_simp
      with_reducible rfl
    rotate_left
    · simp only [Act.put, List.setIfInBounds_toArray, List.set_cons_zero, List.set_cons_succ, i64_w, i32_w]
      rfl
    refine pure_ (i := 3) (N := some 39) (v := ?_) (a' := ?_) #[true, true, true, true, false, false, false, false, false, false, false, false, false, false, false, false, false, false, false, false, false, false, false] rfl rfl (any_of HT_.out (by kernel_rfl)) (fun _ _ _ h => h) (Or.inl ⟨by rfl, ?_⟩) ?_ ?_
    rotate_left
    · intro w'
      go_simp
      with_reducible rfl
    rotate_left
    · simp only [Act.put, List.setIfInBounds_toArray, List.set_cons_zero, List.set_cons_succ, i64_w, i32_w]
      rfl
    refine take_ (i := 4) (N := some 40) (v := ?_) (a' := ?_) #[true, true, true, true, true, false, false, false, false, false, false, false, false, false, false, false, false, false, false, false, false, false, false] rfl rfl (take_of HT_.out (by kernel_rfl)) (fun _ _ _ h => h) (Or.inl ⟨by rfl, ?_⟩) hHeld ?_ ?_
    rotate_left
    · rintro w' ⟨s0, s1, s2, s3⟩
      go_simp
      with_reducible rfl
    rotate_left
    · simp only [Act.put, List.setIfInBounds_toArray, List.set_cons_zero, List.set_cons_succ, i64_w, i32_w]
      rfl
    refine pure_ (i := 5) (N := some 41) (v := ?_) (a' := ?_) #[true, true, true, true, true, true, false, false, false, false, false, false, false, false, false, false, false, false, false, false, false, false, false] rfl rfl (any_of HT_.out (by kernel_rfl)) (fun _ _ _ h => h) (Or.inl ⟨by rfl, ?_⟩) ?_ ?_
    rotate_left
    · intro w'
      go_simp
      with_reducible rfl
    rotate_left
    · simp only [Act.put, List.setIfInBounds_toArray, List.set_cons_zero, List.set_cons_succ, i64_w, i32_w]
      rfl
    refine pure_ (i := 6) (N := some 42) (v := ?_) (a' := ?_) #[true, true, true, true, true, true, true, false, false, false, false, false, false, false, false, false, false, false, false, false, false, false, false] rfl rfl (any_of HT_.out (by kernel_rfl)) (fun _ _ _ h => h) (Or.inl ⟨by rfl, ?_⟩) ?_ ?_
    rotate_left
    · intro w'
      go_simp
      with_reducible rfl
    rotate_left
    · simp only [Act.put, List.setIfInBounds_toArray, List.set_cons_zero, List.set_cons_succ, i64_w, i32_w]
      rfl
    refine pure_ (i := 7) (N := some 43) (v := ?_) (a' := ?_) #[true, true, true, true, true, true, true, true, false, false, false, false, false, false, false, false, false, false, false, false, false, false, false] rfl rfl (any_of HT_.out (by kernel_rfl)) (fun _ _ _ h => h) (Or.inl ⟨by rfl, ?_⟩) ?_ ?_
    rotate_left
    · intro w'
      go_simp
      with_reducible rfl
    rotate_left
    · simp only [Act.put, List.setIfInBounds_toArray, List.set_cons_zero, List.set_cons_succ, i64_w, i32_w]
      rfl
    refine take_ (i := 8) (N := some 44) (v := ?_) (a' := ?_) #[true, true, true, true, true, true, true, true, true, false, false, false, false, false, false, false, false, false, false, false, false, false, false] rfl rfl (take_of HT_.out (by kernel_rfl)) (fun _ _ _ h => h) (Or.inl ⟨by rfl, ?_⟩) hHeld ?_ ?_
    rotate_left
    · rintro w' ⟨s0, s1, s2, s3⟩
      go_simp
      with_reducible rfl
    rotate_left
    · simp only [Act.put, List.setIfInBounds_toArray, List.set_cons_zero, List.set_cons_succ, i64_w, i32_w]
      rfl
    refine pure_ (i := 9) (N := some 45) (v := ?_) (a' := ?_) #[true, true, true, true, true, true, true, true, true, true, false, false, false, false, false, false, false, false, false, false, false, false, false] rfl rfl (any_of HT_.out (by kernel_rfl)) (fun _ _ _ h => h) (Or.inl ⟨by rfl, ?_⟩) ?_ ?_
    rotate_left
    · intro w'
      go_simp
      with_reducible rfl
    rotate_left
    · simp only [Act.put, List.setIfInBounds_toArray, List.set_cons_zero, List.set_cons_succ, i64_w, i32_w]
      rfl
    refine take_ (i := 10) (N := some 46) (v := ?_) (a' := ?_) #[true, true, true, true, true, true, true, true, true, true, true, false, false, false, false, false, false, false, false, false, false, false, false] rfl rfl (take_of HT_.out (by kernel_rfl)) (fun _ _ _ h => h) (Or.inl ⟨by rfl, ?_⟩) hHeld ?_ ?_
    rotate_left
    · rintro w' ⟨s0, s1, s2, s3⟩
      go_simp
      with_reducible rfl
    rotate_left
    · simp only [Act.put, List.setIfInBounds_toArray, List.set_cons_zero, List.set_cons_succ, i64_w, i32_w]
      rfl
    refine pure_ (i := 11) (N := some 47) (v := ?_) (a' := ?_) #[true, true, true, true, true, true, true, true, true, true, true, true, false, false, false, false, false, false, false, false, false, false, false] rfl rfl (any_of HT_.out (by kernel_rfl)) (fun _ _ _ h => h) (Or.inl ⟨by rfl, ?_⟩) ?_ ?_
    rotate_left
    · intro w'
      go_simp
      with_reducible rfl
    rotate_left
    · simp only [Act.put, List.setIfInBounds_toArray, List.set_cons_zero, List.set_cons_succ, i64_w, i32_w]
      rfl
    refine take_ (i := 12) (N := some 48) (v := ?_) (a' := ?_) #[true, true, true, true, true, true, true, true, true, true, true, true, true, false, false, false, false, false, false, false, false, false, false] rfl rfl (take_of HT_.out (by kernel_rfl)) (fun _ _ _ h => h) (Or.inl ⟨by rfl, ?_⟩) hHeld ?_ ?_
    rotate_left
    · rintro w' ⟨s0, s1, s2, s3⟩
      go_simp
      with_reducible rfl
    rotate_left
    · simp only [Act.put, List.setIfInBounds_toArray, List.set_cons_zero, List.set_cons_succ, i64_w, i32_w]
      rfl
    refine pure_ (i := 13) (N := some 49) (v := ?_) (a' := ?_) #[true, true, true, true, true, true, true, true, true, true, true, true, true, true, false, false, false, false, false, false, false, false, false] rfl rfl (any_of HT_.out (by kernel_rfl)) (fun _ _ _ h => h) (Or.inl ⟨by rfl, ?_⟩) ?_ ?_
    rotate_left
    · intro w'
      go_simp
      with_reducible rfl
    rotate_left
    · simp only [Act.put, List.setIfInBounds_toArray, List.set_cons_zero, List.set_cons_succ, i64_w, i32_w]
      rfl
    refine pure_ (i := 14) (N := some 50) (v := ?_) (a' := ?_) #[true, true, true, true, true, true, true, true, true, true, true, true, true, true, true, false, false, false, false, false, false, false, false] rfl rfl (any_of HT_.out (by kernel_rfl)) (fun _ _ _ h => h) (Or.inl ⟨by rfl, ?_⟩) ?_ ?_
    rotate_left
    · intro w'
      go_simp
      with_reducible rfl
    rotate_left
    · simp only [Act.put, List.setIfInBounds_toArray, List.set_cons_zero, List.set_cons_succ, i64_w, i32_w]
      rfl
    refine pure_ (i := 15) (N := some 51) (v := ?_) (a' := ?_) #[true, true, true, true, true, true, true, true, true, true, true, true, true, true, true, true, false, false, false, false, false, false, false] rfl rfl (any_of HT_.out (by kernel_rfl)) (fun _ _ _ h => h) (Or.inl ⟨by rfl, ?_⟩) ?_ ?_
    rotate_left
    · intro w'
      go_simp
      with_reducible rfl
    rotate_left
    · simp only [Act.put, List.setIfInBounds_toArray, List.set_cons_zero, List.set_cons_succ, i64_w, i32_w]
      rfl
    refine join_ (σ := Option Addr × Nat) 2 #[true, true, true, true, true, true, true, true, true, true, true, true, true, true, true, true, true, true, true, true, true, false, false] (fun s => [(52, .tuple #[.agg #[.pointer s.1], .int .i64 0]), (35, .tuple #[.agg #[.pointer s.1], .int .i64 0]), (53, .agg #[.pointer s.1]), (54, .int .i64 0), (8, .pointer (some ⟨s.2, 0, none⟩))]) (fun s y => Aside0 (Px w w.heap.size A D ins y ∧ Fr w [(x1.heap.size, p1, o1), (x2.heap.size, p2, o2)] y ∧ Cel y s.2 none none ∧ w.heap.size ≤ s.2 ∧ (∀ c ∈ [(x1.heap.size, p1, o1), (x2.heap.size, p2, o2)], c.1 ≠ s.2) ∧ ∃ o, At y (.pointer s.1) o ∧ txt o = s0 ∧ Ok o)) ?_ ?_
    rotate_left
    · intro hCont
      refine two_ (i := 16) (j := 20) (Ni := some 52) (Nj := some 8) #[true, true, true, true, true, true, true, true, true, true, true, true, true, true, true, true, true, false, false, false, false, false, false] #[true, true, true, true, true, true, true, true, true, true, true, true, true, true, true, true, false, false, false, false, true, false, false] rfl rfl rfl rfl (by kernel_rfl) (by decide) (by decide) (fun K hK => ?_) (fun K hK => ?_)
      · skip
        refine goes_ Try.func15 (by kernel_rfl) rfl #[.agg #[.pointer p2], .agg #[.int .i64 A, .int .i64 ins.size, .string (s0.extract A ad)]] (by rfl) rfl rfl (by (try simp only [List.map_toArray, List.map_cons, List.map_nil]); first | done | rfl) ?_
        refine (replace_all o2 _ _ (F0.out.get 1 rfl).at_ K2.out (by have := Z.out; have := rpP_size s0 A D ins; rw [← txt_size, T2.out]; omega) A ins.size (s0.extract A ad) (by have := Z.out; rw [ByteArray.size_extract]; omega)).mono ?_
        rw [T2.out, PE.out.1, PE.out.2]
        rintro e y1 ⟨v3, o3, rfl, a3, t3, k3, h⟩
        obtain ⟨q3, rfl⟩ := a3.ptr
        have P1 := Aside0.mk (P0.out.below h)
        have F1 := Aside0.mk (F0.out.below h)
        have R1 := Aside0.mk a3
        have T3 := Aside0.mk t3
        have K3 := Aside0.mk k3
        clear h a3 t3 k3
        refine ⟨_, rfl, ?_⟩
        refine hK.out _ _ ⟨P1.out.cells.1, P1.out.cells.2.1, P1.out.cells.2.2, (F1.out.get 1 rfl).cell⟩ (fun hHeld => ?_)
        clear hK K
        refine norm_ (a' := ?_) ?_ ?_
        rotate_left
        · show Act.put _ (some 52) _ = _
          simp only [Act.put, List.setIfInBounds_toArray, List.set_cons_zero, List.set_cons_succ, i64_w, i32_w]
          rfl
        refine pure_ (i := 17) (N := some 35) (v := ?_) (a' := ?_) #[true, true, true, true, true, true, true, true, true, true, true, true, true, true, true, true, true, true, false, false, false, false, false] rfl rfl (any_of HT_.out (by kernel_rfl)) (fun _ _ _ h => h) (Or.inl ⟨by rfl, ?_⟩) ?_ ?_
        rotate_left
        · intro w'
          go_simp
          with_reducible rfl
        rotate_left
        · simp only [Act.put, List.setIfInBounds_toArray, List.set_cons_zero, List.set_cons_succ, i64_w, i32_w]
          rfl
        refine pure_ (i := 18) (N := some 53) (v := ?_) (a' := ?_) #[true, true, true, true, true, true, true, true, true, true, true, true, true, true, true, true, true, true, true, false, false, false, false] rfl rfl (any_of HT_.out (by kernel_rfl)) (fun _ _ _ h => h) (Or.inl ⟨by rfl, ?_⟩) ?_ ?_
        rotate_left
        · intro w'
          go_simp
          with_reducible rfl
        rotate_left
        · simp only [Act.put, List.setIfInBounds_toArray, List.set_cons_zero, List.set_cons_succ, i64_w, i32_w]
          rfl
        refine pure_ (i := 19) (N := some 54) (v := ?_) (a' := ?_) #[true, true, true, true, true, true, true, true, true, true, true, true, true, true, true, true, true, true, true, true, false, false, false] rfl rfl (any_of HT_.out (by kernel_rfl)) (fun _ _ _ h => h) (Or.inl ⟨by rfl, ?_⟩) ?_ ?_
        rotate_left
        · intro w'
          go_simp
          with_reducible rfl
        rotate_left
        · simp only [Act.put, List.setIfInBounds_toArray, List.set_cons_zero, List.set_cons_succ, i64_w, i32_w]
          rfl
        refine one_ (i := 20) (N := some 8) #[true, true, true, true, true, true, true, true, true, true, true, true, true, true, true, true, true, true, true, true, true, false, false] rfl rfl (one_of HT_.out (by kernel_rfl)) (by decide) (fun K hK => ?_)
        refine value_ (w1 := ?_) (v := ?_) (by rfl) rfl ?_ ?_
        rotate_left 2
        · go_simp
          first | (constructor <;> rfl) | rfl
        have C2 := Aside0.mk (Cel.new (x := y1) (p := none) (o := none) rfl)
        have P2 := Aside0.mk (P1.out.below (bal y1 (.cells #[.pointer none] 26)))
        have F2 := Aside0.mk (F1.out.below (bal y1 (.cells #[.pointer none] 26)))
        have BB := Aside0.mk (P1.out.b.size)
        have BN := Aside0.mk (fun c hc => Nat.ne_of_lt (lt_of_some (F1.out.c c hc).blk))
        have R2 := Aside0.mk (R1.out.alloc (.cells #[.pointer none] 26))
        obtain ⟨z2, hz2⟩ : ∃ z, y1.alloc (.cells #[.pointer none] 26) = z := ⟨_, rfl⟩
        rw [hz2] at P2 F2 C2 R2 ⊢
        clear hz2
        refine hK.out _ _ ⟨P2.out.cells.1, P2.out.cells.2.1, P2.out.cells.2.2, (F2.out.get 1 rfl).cell⟩ (fun hHeld => ?_)
        clear hK K
        refine norm_ (a' := ?_) ?_ ?_
        rotate_left
        · show Act.put _ (some 8) _ = _
          simp only [Act.put, List.setIfInBounds_toArray, List.set_cons_zero, List.set_cons_succ, i64_w, i32_w]
          rfl
        exact norm_ (by simp only [putAll, Act.put, List.setIfInBounds_toArray, List.set_cons_zero, List.set_cons_succ]) (hCont (q3, y1.heap.size) _ ⟨P2.out, F2.out, C2.out, BB.out, BN.out, o3, R2.out, T3.out, K3.out⟩)
      · skip
        refine value_ (w1 := ?_) (v := ?_) (by rfl) rfl ?_ ?_
        rotate_left 2
        · go_simp
          first | (constructor <;> rfl) | rfl
        have C3 := Aside0.mk (Cel.new (x := X1) (p := none) (o := none) rfl)
        have P3 := Aside0.mk (P0.out.below (bal X1 (.cells #[.pointer none] 26)))
        have F3 := Aside0.mk (F0.out.below (bal X1 (.cells #[.pointer none] 26)))
        have BB := Aside0.mk (P0.out.b.size)
        have BN := Aside0.mk (fun c hc => Nat.ne_of_lt (lt_of_some (F0.out.c c hc).blk))
        obtain ⟨z3, hz3⟩ : ∃ z, X1.alloc (.cells #[.pointer none] 26) = z := ⟨_, rfl⟩
        rw [hz3] at P3 F3 C3 ⊢
        clear hz3
        refine hK.out _ _ ⟨P3.out.cells.1, P3.out.cells.2.1, P3.out.cells.2.2, (F3.out.get 1 rfl).cell⟩ (fun hHeld => ?_)
        clear hK K
        refine norm_ (a' := ?_) ?_ ?_
        rotate_left
        · show Act.put _ (some 8) _ = _
          simp only [Act.put, List.setIfInBounds_toArray, List.set_cons_zero, List.set_cons_succ, i64_w, i32_w]
          rfl
        refine one_ (i := 16) (N := some 52) #[true, true, true, true, true, true, true, true, true, true, true, true, true, true, true, true, true, false, false, false, true, false, false] rfl rfl (one_of HT_.out (by kernel_rfl)) (by decide) (fun K hK => ?_)
        refine goes_ Try.func15 (by kernel_rfl) rfl #[.agg #[.pointer p2], .agg #[.int .i64 A, .int .i64 ins.size, .string (s0.extract A ad)]] (by rfl) rfl rfl (by (try simp only [List.map_toArray, List.map_cons, List.map_nil]); first | done | rfl) ?_
        refine (replace_all o2 _ _ (F3.out.get 1 rfl).at_ K2.out (by have := Z.out; have := rpP_size s0 A D ins; rw [← txt_size, T2.out]; omega) A ins.size (s0.extract A ad) (by have := Z.out; rw [ByteArray.size_extract]; omega)).mono ?_
        rw [T2.out, PE.out.1, PE.out.2]
        rintro e y4 ⟨v3, o3, rfl, a3, t3, k3, h⟩
        obtain ⟨q3, rfl⟩ := a3.ptr
        have P4 := Aside0.mk (P3.out.below h)
        have F4 := Aside0.mk (F3.out.below h)
        have C4 := Aside0.mk (C3.out.below h)
        have R4 := Aside0.mk a3
        have T3 := Aside0.mk t3
        have K3 := Aside0.mk k3
        clear h a3 t3 k3
        refine ⟨_, rfl, ?_⟩
        refine hK.out _ _ ⟨P4.out.cells.1, P4.out.cells.2.1, P4.out.cells.2.2, (F4.out.get 1 rfl).cell⟩ (fun hHeld => ?_)
        clear hK K
        refine norm_ (a' := ?_) ?_ ?_
        rotate_left
        · show Act.put _ (some 52) _ = _
          simp only [Act.put, List.setIfInBounds_toArray, List.set_cons_zero, List.set_cons_succ, i64_w, i32_w]
          rfl
        refine pure_ (i := 17) (N := some 35) (v := ?_) (a' := ?_) #[true, true, true, true, true, true, true, true, true, true, true, true, true, true, true, true, true, true, false, false, true, false, false] rfl rfl (any_of HT_.out (by kernel_rfl)) (fun _ _ _ h => h) (Or.inl ⟨by rfl, ?_⟩) ?_ ?_
        rotate_left
        · intro w'
          go_simp
          with_reducible rfl
        rotate_left
        · simp only [Act.put, List.setIfInBounds_toArray, List.set_cons_zero, List.set_cons_succ, i64_w, i32_w]
          rfl
        refine pure_ (i := 18) (N := some 53) (v := ?_) (a' := ?_) #[true, true, true, true, true, true, true, true, true, true, true, true, true, true, true, true, true, true, true, false, true, false, false] rfl rfl (any_of HT_.out (by kernel_rfl)) (fun _ _ _ h => h) (Or.inl ⟨by rfl, ?_⟩) ?_ ?_
        rotate_left
        · intro w'
          go_simp
          with_reducible rfl
        rotate_left
        · simp only [Act.put, List.setIfInBounds_toArray, List.set_cons_zero, List.set_cons_succ, i64_w, i32_w]
          rfl
        refine pure_ (i := 19) (N := some 54) (v := ?_) (a' := ?_) #[true, true, true, true, true, true, true, true, true, true, true, true, true, true, true, true, true, true, true, true, true, false, false] rfl rfl (any_of HT_.out (by kernel_rfl)) (fun _ _ _ h => h) (Or.inl ⟨by rfl, ?_⟩) ?_ ?_
        rotate_left
        · intro w'
          go_simp
          with_reducible rfl
        rotate_left
        · simp only [Act.put, List.setIfInBounds_toArray, List.set_cons_zero, List.set_cons_succ, i64_w, i32_w]
          rfl
        exact norm_ (by simp only [putAll, Act.put, List.setIfInBounds_toArray, List.set_cons_zero, List.set_cons_succ]) (hCont (q3, X1.heap.size) _ ⟨P4.out, F4.out, C4.out, BB.out, BN.out, o3, R4.out, T3.out, K3.out⟩)
    rintro ⟨q3, b⟩ y ⟨hP, hF, hC, hbb, hbn, o3, hA, hT, hK3⟩
    refine norm_ (a' := ?_) ?_ ?_
    rotate_left
    · simp only [putAll, Act.put, List.setIfInBounds_toArray, List.set_cons_zero, List.set_cons_succ]
      rfl
    refine one_ (i := 21) (N := none) #[true, true, true, true, true, true, true, true, true, true, true, true, true, true, true, true, true, true, true, true, true, true, false] rfl rfl (one_of HT_.out (by kernel_rfl)) (by decide) (fun K hK => ?_)
    have hcc := hC.cell
    have hff := fun q => blk_frozen hC.blk q
    refine skip_ (w1 := ?_) (by rfl) rfl ?_ ?_
    rotate_left
    · go_simp
      rfl
    have PZ := Aside0.mk (Px.set hP hC.blk hbb (.pointer q3))
    have FZ := Aside0.mk (Fr.set hF hC.blk hbb hbn (.pointer q3))
    have CZ := Aside0.mk (Cel.put hC hA)
    have TZ := Aside0.mk hT
    have KZ := Aside0.mk hK3
    clear hP hF hC hbb hbn hA hT hK3 hcc hff
    refine hK.out _ _ ⟨PZ.out.cells.1, PZ.out.cells.2.1, PZ.out.cells.2.2, (FZ.out.get 1 rfl).cell⟩ (fun hHeld => ?_)
    clear hK K
    obtain ⟨Y, hY⟩ : ∃ Y, y.setCell ⟨b, 0, none⟩ (.pointer q3) = Y := ⟨_, rfl⟩
    rw [hY] at PZ FZ CZ hHeld ⊢
    clear hY
    refine pure_ (i := 22) (N := some 9) (v := ?_) (a' := ?_) #[true, true, true, true, true, true, true, true, true, true, true, true, true, true, true, true, true, true, true, true, true, true, true] rfl rfl (any_of HT_.out (by kernel_rfl)) (fun _ _ _ h => h) (Or.inl ⟨by rfl, ?_⟩) ?_ ?_
    rotate_left
    · intro w'
      go_simp
      with_reducible rfl
    rotate_left
    · simp only [Act.put, List.setIfInBounds_toArray, List.set_cons_zero, List.set_cons_succ, i64_w, i32_w]
      rfl
    refine done_ (done_of HT_.out (by kernel_rfl)) ?_
    have hcY := CZ.out.cell
    go_wp2_with (go_at_call 11; refine (awake_any _).mono ?_; rintro e x6 ⟨rfl, h⟩; have C6 := Aside0.mk (CZ.out.below h); have F6 := Aside0.mk (FZ.out.below h); have c6 := (F6.out.get 0 rfl).cell; have c6b := C6.out.cell; clear h)
    have S1 : Aside0 (siz o1 ≤ 140737488355328) := Aside0.mk (by have := Z.out; rw [← txt_size, T1.out]; omega)
    have S3 : Aside0 (siz o3 ≤ 140737488355328) := Aside0.mk (by have := Z.out; rw [← txt_size, TZ.out]; omega)
    go_wp2_with (go_at_call 22; refine (string_any o1 _ _ (F6.out.get 0 rfl).at_ S1.out).mono ?_; rw [T1.out]; rintro e x7 ⟨rfl, h⟩; have C7 := Aside0.mk (C6.out.below h); have F7 := Aside0.mk (F6.out.below h); have c7 := C7.out.cell; clear h)
    go_wp2_with (go_at_call 22; refine (string_any o3 _ _ C7.out.at_ S3.out).mono ?_; rw [TZ.out]; rintro e x8 ⟨rfl, h⟩; have C8 := Aside0.mk (C7.out.below h); have F8 := Aside0.mk (F7.out.below h); have c8 := C8.out.cell; clear h)
    have HH := Aside0.mk (holds_txt (s := s0) _ _ _ C8.out.at_ KZ.out TZ.out (by have := Z.out; omega))
    go_wp2_with (go_at_call 12; refine HH.out.mono ?_; rintro e x9 ⟨rfl, h⟩; have F9 := Aside0.mk (F8.out.below h); clear h)
    go_wp2
    go_ret
    exact ⟨rfl, F9.out.b⟩
  · have P00 := Aside0.mk PD
    rw [decide_eq_false h] at FT
    clear c d PD h
    go_enter Try.func7, Try.ntmps7
    go_wp2_with (go_at_call 21; refine FT.out.mono ?_; rintro e x0 ⟨rfl, h⟩; have PA := Aside0.mk (P00.out.below h); clear h)
    go_wp2_with (go_at_call 11; refine (awake_any _).mono ?_; rintro e x1 ⟨rfl, h⟩; have PB := Aside0.mk (PA.out.below h); clear h)
    go_wp2
    go_ret
    exact ⟨rfl, PB.out.b⟩
end Go.Proofs.Ytmoceagbmgoijaa.Rop
