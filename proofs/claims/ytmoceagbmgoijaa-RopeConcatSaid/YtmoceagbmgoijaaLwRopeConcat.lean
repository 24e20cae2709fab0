/- A law of the rope: its call answers true, for all arguments. -/
import Derived.Test.YtmoceagbmgoijaaLow
import Derived.KernelRfl
namespace Go.Proofs.Ytmoceagbmgoijaa.Rop
open Go.RowKit Go.Proofs.YtmoceagbmgoijaaW.PrintWords Go.Proofs.YtmoceagbmgoijaaW.PrintLast Go.Proofs.YtmoceagbmgoijaaW.PrintMore Go.Proofs.Ytmoceagbmgoijaa.Tre Go.Proofs.Ytmoceagbmgoijaa.PA
attribute [local go_sem] max2_int min2_int max_two min_two max_three min_three max_four min_four
set_option linter.unusedVariables false
set_option linter.unusedSimpArgs false

/-- rope variables in memory, from the door on -/
structure Fr (w : World) (L : List (Nat × Option Addr × Option T)) (x : World) : Prop where
  b : Below w.heap.size w x
  c : ∀ q ∈ L, Cel x q.1 q.2.1 q.2.2
theorem Fr.below {w x x' : World} {L : List (Nat × Option Addr × Option T)} (h : Fr w L x) (hb : Below x.heap.size x x') : Fr w L x' := ⟨h.b.trans (hb.mono h.b.size), fun q hq => (h.c q hq).below hb⟩
theorem Fr.get {w x : World} {L : List (Nat × Option Addr × Option T)} (h : Fr w L x) (i : Nat) {q : Nat × Option Addr × Option T} (hq : L[i]? = some q) : Cel x q.1 q.2.1 q.2.2 := h.c q (List.mem_of_getElem? hq)
theorem holds_txt (o : Option T) (v : Value) (w : World) (a : At w v o) (k : Ok o) {s : ByteArray} (hs : txt o = s) (hz : s.size ≤ 6900) :
    Calls Try.prog 12 #[.agg #[v], .string s] w fun e w' => e = .returned (.bool true) ∧ Below w.heap.size w w' := by
  subst hs
  exact holds_any o v w a k (by rw [← txt_size]; exact hz)
/-- a rope variable laid and filled -/
theorem Cel.new {x : World} {p : Option Addr} {o : Option T} (a : At x (.pointer p) o) : Cel (x.alloc (.cells #[.pointer p] 26)) x.heap.size p o := ⟨World.alloc_heap_new x _, a.alloc _⟩
/-- three rope variables filled, a fourth empty -/
theorem four_fresh (w x : World) (S : Sl w x) {p1 p2 p3 : Option Addr} {o1 o2 o3 : Option T} (a1 : At x (.pointer p1) o1) (a2 : At x (.pointer p2) o2) (a3 : At x (.pointer p3) o3) :
    Fr w [(x.heap.size, p1, o1), (x.heap.size + 1, p2, o2), (x.heap.size + 1 + 1, p3, o3), (x.heap.size + 1 + 1 + 1, none, none)]
      ((((x.alloc (.cells #[.pointer p1] 26)).alloc (.cells #[.pointer p2] 26)).alloc (.cells #[.pointer p3] 26)).alloc (.cells #[.pointer none] 26)) := by
  have c1 := Cel.new a1
  have b1 := bal x (.cells #[.pointer p1] 26)
  have z1 := hsz x (.cells #[.pointer p1] 26)
  have A2 := a2.below b1
  have A3 := a3.below b1
  obtain ⟨x1, h1⟩ : ∃ x1, x.alloc (.cells #[.pointer p1] 26) = x1 := ⟨_, rfl⟩
  rw [h1] at c1 b1 z1 A2 A3 ⊢
  have c2 := Cel.new A2
  have b2 := bal x1 (.cells #[.pointer p2] 26)
  have z2 := hsz x1 (.cells #[.pointer p2] 26)
  have B3 := A3.below b2
  obtain ⟨x2, h2⟩ : ∃ x2, x1.alloc (.cells #[.pointer p2] 26) = x2 := ⟨_, rfl⟩
  rw [h2] at c2 b2 z2 B3 ⊢
  have c3 := Cel.new B3
  have b3 := bal x2 (.cells #[.pointer p3] 26)
  have z3 := hsz x2 (.cells #[.pointer p3] 26)
  obtain ⟨x3, h3⟩ : ∃ x3, x2.alloc (.cells #[.pointer p3] 26) = x3 := ⟨_, rfl⟩
  rw [h3] at c3 b3 z3 ⊢
  have c4 : Cel (x3.alloc (.cells #[.pointer none] 26)) x3.heap.size none none := Cel.new (p := none) (o := none) rfl
  have b4 := bal x3 (.cells #[.pointer none] 26)
  rw [z3, z2, z1] at c4
  rw [z2, z1] at c3
  rw [z1] at c2
  refine ⟨S.b.trans ((((b1.trans (b2.mono b1.size)).trans (b3.mono (by omega))).trans (b4.mono (by omega))).mono S.b.size), fun q hq => ?_⟩
  simp only [List.mem_cons, List.not_mem_nil, or_false] at hq
  rcases hq with rfl | rfl | rfl | rfl
  · exact ((c1.below b2).below b3).below b4
  · exact (c2.below b3).below b4
  · exact c3.below b4
  · exact c4
set_option maxHeartbeats 16000000 in
set_option maxRecDepth 100000 in
theorem concat_law (s1 s2 s3 : ByteArray) (w : World) : Calls Try.prog 4 #[.string s1, .string s2, .string s3] w fun e w' => e = .returned (.bool true) ∧ Below w.heap.size w w' := by
  rcases (by omega : 1000 < s1.size ∨ (¬ 1000 < s1.size ∧ 1000 < s2.size) ∨ (¬ 1000 < s1.size ∧ ¬ 1000 < s2.size ∧ 1000 < s3.size) ∨ (¬ 1000 < s1.size ∧ ¬ 1000 < s2.size ∧ ¬ 1000 < s3.size)) with c | ⟨c, d⟩ | ⟨c, d, e⟩ | ⟨c, d, e⟩
  · have c1 : decide (1000 < (s1.size : Int)) = true := decide_eq_true (by omega)
    have c1x : decide (1000 < s1.size) = true := decide_eq_true c
    go_enter Try.func4, Try.ntmps4
    go_wp2_with (go_at_call 11; refine (awake_any _).mono ?_; rintro e x1 ⟨rfl, h⟩)
    go_ret
    exact ⟨rfl, h⟩
  · have c1 : decide (1000 < (s1.size : Int)) = false := decide_eq_false (by omega)
    have c1x : decide (1000 < s1.size) = false := decide_eq_false c
    have d1 : decide (1000 < (s2.size : Int)) = true := decide_eq_true (by omega)
    have d1x : decide (1000 < s2.size) = true := decide_eq_true d
    go_enter Try.func4, Try.ntmps4
    go_wp2_with (go_at_call 11; refine (awake_any _).mono ?_; rintro e x1 ⟨rfl, h⟩)
    go_ret
    exact ⟨rfl, h⟩
  · have c1 : decide (1000 < (s1.size : Int)) = false := decide_eq_false (by omega)
    have c1x : decide (1000 < s1.size) = false := decide_eq_false c
    have d1 : decide (1000 < (s2.size : Int)) = false := decide_eq_false (by omega)
    have d1x : decide (1000 < s2.size) = false := decide_eq_false d
    have e1 : decide (1000 < (s3.size : Int)) = true := decide_eq_true (by omega)
    have e1x : decide (1000 < s3.size) = true := decide_eq_true e
    go_enter Try.func4, Try.ntmps4
    go_wp2_with (go_at_call 11; refine (awake_any _).mono ?_; rintro e x1 ⟨rfl, h⟩)
    go_ret
    exact ⟨rfl, h⟩
  · have c1 : decide (1000 < (s1.size : Int)) = false := decide_eq_false (by omega)
    have c1x : decide (1000 < s1.size) = false := decide_eq_false c
    have d1 : decide (1000 < (s2.size : Int)) = false := decide_eq_false (by omega)
    have d1x : decide (1000 < s2.size) = false := decide_eq_false d
    have e1 : decide (1000 < (s3.size : Int)) = false := decide_eq_false (by omega)
    have e1x : decide (1000 < s3.size) = false := decide_eq_false e
    have Z : Aside0 (s1.size ≤ 1000 ∧ s2.size ≤ 1000 ∧ s3.size ≤ 1000) := Aside0.mk ⟨by omega, by omega, by omega⟩
    have h12 : (9223372036854775807 < s1.size + s2.size) = False := eq_false (by omega)
    have h123 : (9223372036854775807 < s1.size + s2.size + s3.size) = False := eq_false (by omega)
    have S0 := Aside0.mk (Sl.mk (Below.refl w.heap.size w))
    clear c d e
    go_enter Try.func4, Try.ntmps4
    go_wp2_with (go_at_call 13; refine (new_any s1 (by have := Z.out; omega) _).mono ?_; rintro e x1 ⟨v1, o1, rfl, a1, t1, k1, b1⟩; have S1 := Aside0.mk (S0.out.then_ b1); have A1 := Aside0.mk a1; have T1 := Aside0.mk t1; have K1 := Aside0.mk k1; obtain ⟨p1, rfl⟩ := a1.ptr; clear a1 t1 k1 b1)
    go_wp2_with (go_at_call 13; refine (new_any s2 (by have := Z.out; omega) _).mono ?_; rintro e x2 ⟨v2, o2, rfl, a2, t2, k2, b2⟩; have S2 := Aside0.mk (S1.out.then_ b2); have A1' := Aside0.mk (A1.out.below b2); have A2 := Aside0.mk a2; have T2 := Aside0.mk t2; have K2 := Aside0.mk k2; obtain ⟨p2, rfl⟩ := a2.ptr; clear a2 t2 k2 b2)
    go_wp2_with (go_at_call 13; refine (new_any s3 (by have := Z.out; omega) _).mono ?_; rintro e x3 ⟨v3, o3, rfl, a3, t3, k3, b3⟩; obtain ⟨p3, rfl⟩ := a3.ptr; have F := four_fresh w x3 (S2.out.then_ b3) (A1'.out.below b3) (A2.out.below b3) a3; have T3 := Aside0.mk t3; have K3 := Aside0.mk k3; obtain ⟨X, hX⟩ : ∃ X, (((x3.alloc (.cells #[.pointer p1] 26)).alloc (.cells #[.pointer p2] 26)).alloc (.cells #[.pointer p3] 26)).alloc (.cells #[.pointer none] 26) = X := ⟨_, rfl⟩; rw [hX] at F; have F0 := Aside0.mk (F.below (below_drew (Below.refl _ X))); clear a3 t3 k3 b3 F)
    try go_wp2_with (fail)
    refine start_ (n := 46) (S := fun w' => w'.cell? ⟨x3.heap.size, 0, none⟩ = some (.pointer p1) ∧ w'.cell? ⟨x3.heap.size + 1, 0, none⟩ = some (.pointer p2) ∧ w'.cell? ⟨x3.heap.size + 1 + 1, 0, none⟩ = some (.pointer p3) ∧ w'.cell? ⟨x3.heap.size + 1 + 1 + 1, 0, none⟩ = some (.pointer none)) (ds := []) #[false, false, false, false, false, false, false, false, false, false, false, false, false, false, false, false, false, false, false, false, false, false, false, false, false, false, false, false, false, false, false, false, false, false, false, false, false, false, false, false, false, false, false, false, false, false] (by kernel_rfl) rfl rfl ⟨(F0.out.get 0 rfl).cell, (F0.out.get 1 rfl).cell, (F0.out.get 2 rfl).cell, (F0.out.get 3 rfl).cell⟩ (fun hHeld => ?_)
    refine with_tab (T := rtab .any (opsOf Try.f4 5)) rfl (fun HT_ => ?_)
    refine one_ (i := 0) (N := some 31) #[true, false, false, false, false, false, false, false, false, false, false, false, false, false, false, false, false, false, false, false, false, false, false, false, false, false, false, false, false, false, false, false, false, false, false, false, false, false, false, false, false, false, false, false, false, false] rfl rfl (one_of HT_.out (by kernel_rfl)) (by decide) (fun K hK => ?_)
    refine goes_ Try.func11 (by kernel_rfl) rfl #[] (by rfl) rfl rfl (by (try simp only [List.map_toArray, List.map_cons, List.map_nil]); first | done | rfl) ?_
    refine (awake_any _).mono ?_
    rintro e y1 ⟨rfl, h⟩
    have F1 := Aside0.mk (F0.out.below h)
    clear h
    refine ⟨_, rfl, ?_⟩
    refine hK.out _ _ ⟨(F1.out.get 0 rfl).cell, (F1.out.get 1 rfl).cell, (F1.out.get 2 rfl).cell, (F1.out.get 3 rfl).cell⟩ (fun hHeld => ?_)
    clear hK K
    refine norm_ (a' := ?_) ?_ ?_
    rotate_left
    · show Act.put _ (some 31) _ = _
      simp only [Act.put, List.setIfInBounds_toArray, List.set_cons_zero, List.set_cons_succ, i64_w, i32_w]
      rfl
    refine pure_ (i := 1) (N := some 32) (v := ?_) (a' := ?_) #[true, true, false, false, false, false, false, false, false, false, false, false, false, false, false, false, false, false, false, false, false, false, false, false, false, false, false, false, false, false, false, false, false, false, false, false, false, false, false, false, false, false, false, false, false, false] rfl rfl (any_of HT_.out (by kernel_rfl)) (fun _ _ _ h => h) (Or.inl ⟨by rfl, ?_⟩) ?_ ?_
    rotate_left
    · intro w'
      go_simp
      with_reducible rfl
    rotate_left
    · simp only [Act.put, List.setIfInBounds_toArray, List.set_cons_zero, List.set_cons_succ, i64_w, i32_w]
      rfl
    refine take_ (i := 2) (N := some 33) (v := ?_) (a' := ?_) #[true, true, true, false, false, false, false, false, false, false, false, false, false, false, false, false, false, false, false, false, false, false, false, false, false, false, false, false, false, false, false, false, false, false, false, false, false, false, false, false, false, false, false, false, false, false] rfl rfl (take_of HT_.out (by kernel_rfl)) (fun _ _ _ h => h) (Or.inl ⟨by rfl, ?_⟩) hHeld ?_ ?_
    rotate_left
    · rintro w' ⟨s7, s8, s9, s10⟩
      go_simp
      with_reducible rfl
    rotate_left
    · simp only [Act.put, List.setIfInBounds_toArray, List.set_cons_zero, List.set_cons_succ, i64_w, i32_w]
      rfl
    refine take_ (i := 3) (N := some 34) (v := ?_) (a' := ?_) #[true, true, true, true, false, false, false, false, false, false, false, false, false, false, false, false, false, false, false, false, false, false, false, false, false, false, false, false, false, false, false, false, false, false, false, false, false, false, false, false, false, false, false, false, false, false] rfl rfl (take_of HT_.out (by kernel_rfl)) (fun _ _ _ h => h) (Or.inl ⟨by rfl, ?_⟩) hHeld ?_ ?_
    rotate_left
    · rintro w' ⟨s7, s8, s9, s10⟩
      go_simp
      with_reducible rfl
    rotate_left
    · simp only [Act.put, List.setIfInBounds_toArray, List.set_cons_zero, List.set_cons_succ, i64_w, i32_w]
      rfl
    refine take_ (i := 5) (N := some 36) (v := ?_) (a' := ?_) #[true, true, true, true, false, true, false, false, false, false, false, false, false, false, false, false, false, false, false, false, false, false, false, false, false, false, false, false, false, false, false, false, false, false, false, false, false, false, false, false, false, false, false, false, false, false] rfl rfl (take_of HT_.out (by kernel_rfl)) (fun _ _ _ h => h) (Or.inl ⟨by rfl, ?_⟩) hHeld ?_ ?_
    rotate_left
    · rintro w' ⟨s7, s8, s9, s10⟩
      go_simp
      with_reducible rfl
    rotate_left
    · simp only [Act.put, List.setIfInBounds_toArray, List.set_cons_zero, List.set_cons_succ, i64_w, i32_w]
      rfl
    refine pure_ (i := 7) (N := some 38) (v := ?_) (a' := ?_) #[true, true, true, true, false, true, false, true, false, false, false, false, false, false, false, false, false, false, false, false, false, false, false, false, false, false, false, false, false, false, false, false, false, false, false, false, false, false, false, false, false, false, false, false, false, false] rfl rfl (any_of HT_.out (by kernel_rfl)) (fun _ _ _ h => h) (Or.inl ⟨by rfl, ?_⟩) ?_ ?_
    rotate_left
    · intro w'
      go_simp
      with_reducible rfl
    rotate_left
    · simp only [Act.put, List.setIfInBounds_toArray, List.set_cons_zero, List.set_cons_succ, i64_w, i32_w]
      rfl
    refine pure_ (i := 8) (N := some 39) (v := ?_) (a' := ?_) #[true, true, true, true, false, true, false, true, true, false, false, false, false, false, false, false, false, false, false, false, false, false, false, false, false, false, false, false, false, false, false, false, false, false, false, false, false, false, false, false, false, false, false, false, false, false] rfl rfl (any_of HT_.out (by kernel_rfl)) (fun _ _ _ h => h) (Or.inl ⟨by rfl, ?_⟩) ?_ ?_
    rotate_left
    · intro w'
      go_simp
      with_reducible rfl
    rotate_left
    · simp only [Act.put, List.setIfInBounds_toArray, List.set_cons_zero, List.set_cons_succ, i64_w, i32_w]
      rfl
    refine pure_ (i := 9) (N := some 40) (v := ?_) (a' := ?_) #[true, true, true, true, false, true, false, true, true, true, false, false, false, false, false, false, false, false, false, false, false, false, false, false, false, false, false, false, false, false, false, false, false, false, false, false, false, false, false, false, false, false, false, false, false, false] rfl rfl (any_of HT_.out (by kernel_rfl)) (fun _ _ _ h => h) (Or.inl ⟨by rfl, ?_⟩) ?_ ?_
    rotate_left
    · intro w'
      go_simp
      with_reducible rfl
    rotate_left
    · simp only [Act.put, List.setIfInBounds_toArray, List.set_cons_zero, List.set_cons_succ, i64_w, i32_w]
      rfl
    refine pure_ (i := 10) (N := some 41) (v := ?_) (a' := ?_) #[true, true, true, true, false, true, false, true, true, true, true, false, false, false, false, false, false, false, false, false, false, false, false, false, false, false, false, false, false, false, false, false, false, false, false, false, false, false, false, false, false, false, false, false, false, false] rfl rfl (any_of HT_.out (by kernel_rfl)) (fun _ _ _ h => h) (Or.inl ⟨by rfl, ?_⟩) ?_ ?_
    rotate_left
    · intro w'
      go_simp
      with_reducible rfl
    rotate_left
    · simp only [Act.put, List.setIfInBounds_toArray, List.set_cons_zero, List.set_cons_succ, i64_w, i32_w]
      rfl
    refine pure_ (i := 11) (N := some 42) (v := ?_) (a' := ?_) #[true, true, true, true, false, true, false, true, true, true, true, true, false, false, false, false, false, false, false, false, false, false, false, false, false, false, false, false, false, false, false, false, false, false, false, false, false, false, false, false, false, false, false, false, false, false] rfl rfl (any_of HT_.out (by kernel_rfl)) (fun _ _ _ h => h) (Or.inl ⟨by rfl, ?_⟩) ?_ ?_
    rotate_left
    · intro w'
      go_simp
      with_reducible rfl
    rotate_left
    · simp only [Act.put, List.setIfInBounds_toArray, List.set_cons_zero, List.set_cons_succ, i64_w, i32_w]
      rfl
    refine one_ (i := 4) (N := some 35) #[true, true, true, true, true, true, false, true, true, true, true, true, false, false, false, false, false, false, false, false, false, false, false, false, false, false, false, false, false, false, false, false, false, false, false, false, false, false, false, false, false, false, false, false, false, false] rfl rfl (one_of HT_.out (by kernel_rfl)) (by decide) (fun K hK => ?_)
    refine goes_ Try.func14 (by kernel_rfl) rfl #[.agg #[.pointer p1], .agg #[.pointer p2]] (by rfl) rfl rfl (by (try simp only [List.map_toArray, List.map_cons, List.map_nil]); first | done | rfl) ?_
    refine (concat_any _ _ _ _ _ (F1.out.get 0 rfl).at_ K1.out (F1.out.get 1 rfl).at_ K2.out (by have := Z.out; rw [← txt_size, ← txt_size, T1.out, T2.out]; (try simp only [ByteArray.size_append]); omega)).mono ?_
    rintro e y2 ⟨va, oa, rfl, aa, ta, ka, h⟩
    obtain ⟨qa, rfl⟩ := aa.ptr
    have F2 := Aside0.mk (F1.out.below h)
    have Aa := Aside0.mk aa
    have Ta := Aside0.mk ta
    have Ka := Aside0.mk ka
    clear h aa ta ka
    refine ⟨_, rfl, ?_⟩
    refine hK.out _ _ ⟨(F2.out.get 0 rfl).cell, (F2.out.get 1 rfl).cell, (F2.out.get 2 rfl).cell, (F2.out.get 3 rfl).cell⟩ (fun hHeld => ?_)
    clear hK K
    refine norm_ (a' := ?_) ?_ ?_
    rotate_left
    · show Act.put _ (some 35) _ = _
      simp only [Act.put, List.setIfInBounds_toArray, List.set_cons_zero, List.set_cons_succ, i64_w, i32_w]
      rfl
    refine one_ (i := 6) (N := some 37) #[true, true, true, true, true, true, true, true, true, true, true, true, false, false, false, false, false, false, false, false, false, false, false, false, false, false, false, false, false, false, false, false, false, false, false, false, false, false, false, false, false, false, false, false, false, false] rfl rfl (one_of HT_.out (by kernel_rfl)) (by decide) (fun K hK => ?_)
    refine goes_ Try.func14 (by kernel_rfl) rfl #[.agg #[.pointer qa], .agg #[.pointer p3]] (by rfl) rfl rfl (by (try simp only [List.map_toArray, List.map_cons, List.map_nil]); first | done | rfl) ?_
    refine (concat_any _ _ _ _ _ Aa.out Ka.out (F2.out.get 2 rfl).at_ K3.out (by have := Z.out; rw [← txt_size, ← txt_size, Ta.out, T1.out, T2.out, T3.out]; (try simp only [ByteArray.size_append]); omega)).mono ?_
    rintro e y3 ⟨vb, ob, rfl, ab, tb, kb, h⟩
    obtain ⟨qb, rfl⟩ := ab.ptr
    have F3 := Aside0.mk (F2.out.below h)
    have Ab := Aside0.mk ab
    have Tb := Aside0.mk tb
    have Kb := Aside0.mk kb
    clear h ab tb kb
    refine ⟨_, rfl, ?_⟩
    refine hK.out _ _ ⟨(F3.out.get 0 rfl).cell, (F3.out.get 1 rfl).cell, (F3.out.get 2 rfl).cell, (F3.out.get 3 rfl).cell⟩ (fun hHeld => ?_)
    clear hK K
    refine norm_ (a' := ?_) ?_ ?_
    rotate_left
    · show Act.put _ (some 37) _ = _
      simp only [Act.put, List.setIfInBounds_toArray, List.set_cons_zero, List.set_cons_succ, i64_w, i32_w]
      rfl
    refine one_ (i := 12) (N := some 43) #[true, true, true, true, true, true, true, true, true, true, true, true, true, false, false, false, false, false, false, false, false, false, false, false, false, false, false, false, false, false, false, false, false, false, false, false, false, false, false, false, false, false, false, false, false, false] rfl rfl (one_of HT_.out (by kernel_rfl)) (by decide) (fun K hK => ?_)
    refine goes_ Try.func12 (by kernel_rfl) rfl #[.agg #[.pointer qb], .string ((s1 ++ s2) ++ s3)] (by rfl) rfl rfl (by (try simp only [List.map_toArray, List.map_cons, List.map_nil]); first | done | rfl) ?_
    have HH := (holds_txt (s := ((s1 ++ s2) ++ s3)) _ _ _ Ab.out Kb.out (by rw [Tb.out, Ta.out, T1.out, T2.out, T3.out]) (by have := Z.out; (try simp only [ByteArray.size_append]); omega))
    refine HH.mono ?_
    rintro e y4 ⟨rfl, h⟩
    have F4 := Aside0.mk (F3.out.below h)
    clear h HH
    refine ⟨_, rfl, ?_⟩
    refine hK.out _ _ ⟨(F4.out.get 0 rfl).cell, (F4.out.get 1 rfl).cell, (F4.out.get 2 rfl).cell, (F4.out.get 3 rfl).cell⟩ (fun hHeld => ?_)
    clear hK K
    refine norm_ (a' := ?_) ?_ ?_
    rotate_left
    · show Act.put _ (some 43) _ = _
      simp only [Act.put, List.setIfInBounds_toArray, List.set_cons_zero, List.set_cons_succ, i64_w, i32_w]
      rfl
    refine pure_ (i := 13) (N := some 44) (v := ?_) (a' := ?_) #[true, true, true, true, true, true, true, true, true, true, true, true, true, true, false, false, false, false, false, false, false, false, false, false, false, false, false, false, false, false, false, false, false, false, false, false, false, false, false, false, false, false, false, false, false, false] rfl rfl (any_of HT_.out (by kernel_rfl)) (fun _ _ _ h => h) (Or.inl ⟨by rfl, ?_⟩) ?_ ?_
    rotate_left
    · intro w'
      go_simp
      with_reducible rfl
    rotate_left
    · simp only [Act.put, List.setIfInBounds_toArray, List.set_cons_zero, List.set_cons_succ, i64_w, i32_w]
      rfl
    refine pure_ (i := 14) (N := some 45) (v := ?_) (a' := ?_) #[true, true, true, true, true, true, true, true, true, true, true, true, true, true, true, false, false, false, false, false, false, false, false, false, false, false, false, false, false, false, false, false, false, false, false, false, false, false, false, false, false, false, false, false, false, false] rfl rfl (any_of HT_.out (by kernel_rfl)) (fun _ _ _ h => h) (Or.inl ⟨by rfl, ?_⟩) ?_ ?_
    rotate_left
    · intro w'
      go_simp
      with_reducible rfl
    rotate_left
    · simp only [Act.put, List.setIfInBounds_toArray, List.set_cons_zero, List.set_cons_succ, i64_w, i32_w]
      rfl
    refine take_ (i := 15) (N := some 46) (v := ?_) (a' := ?_) #[true, true, true, true, true, true, true, true, true, true, true, true, true, true, true, true, false, false, false, false, false, false, false, false, false, false, false, false, false, false, false, false, false, false, false, false, false, false, false, false, false, false, false, false, false, false] rfl rfl (take_of HT_.out (by kernel_rfl)) (fun _ _ _ h => h) (Or.inl ⟨by rfl, ?_⟩) hHeld ?_ ?_
    rotate_left
    · rintro w' ⟨s7, s8, s9, s10⟩
      go_simp
      with_reducible rfl
    rotate_left
    · simp only [Act.put, List.setIfInBounds_toArray, List.set_cons_zero, List.set_cons_succ, i64_w, i32_w]
      rfl
    refine take_ (i := 16) (N := some 47) (v := ?_) (a' := ?_) #[true, true, true, true, true, true, true, true, true, true, true, true, true, true, true, true, true, false, false, false, false, false, false, false, false, false, false, false, false, false, false, false, false, false, false, false, false, false, false, false, false, false, false, false, false, false] rfl rfl (take_of HT_.out (by kernel_rfl)) (fun _ _ _ h => h) (Or.inl ⟨by rfl, ?_⟩) hHeld ?_ ?_
    rotate_left
    · rintro w' ⟨s7, s8, s9, s10⟩
      go_simp
      with_reducible rfl
    rotate_left
    · simp only [Act.put, List.setIfInBounds_toArray, List.set_cons_zero, List.set_cons_succ, i64_w, i32_w]
      rfl
    refine take_ (i := 17) (N := some 48) (v := ?_) (a' := ?_) #[true, true, true, true, true, true, true, true, true, true, true, true, true, true, true, true, true, true, false, false, false, false, false, false, false, false, false, false, false, false, false, false, false, false, false, false, false, false, false, false, false, false, false, false, false, false] rfl rfl (take_of HT_.out (by kernel_rfl)) (fun _ _ _ h => h) (Or.inl ⟨by rfl, ?_⟩) hHeld ?_ ?_
    rotate_left
    · rintro w' ⟨s7, s8, s9, s10⟩
      go_simp
      with_reducible rfl
    rotate_left
    · simp only [Act.put, List.setIfInBounds_toArray, List.set_cons_zero, List.set_cons_succ, i64_w, i32_w]
      rfl
    refine pure_ (i := 20) (N := some 51) (v := ?_) (a' := ?_) #[true, true, true, true, true, true, true, true, true, true, true, true, true, true, true, true, true, true, false, false, true, false, false, false, false, false, false, false, false, false, false, false, false, false, false, false, false, false, false, false, false, false, false, false, false, false] rfl rfl (any_of HT_.out (by kernel_rfl)) (fun _ _ _ h => h) (Or.inl ⟨by rfl, ?_⟩) ?_ ?_
    rotate_left
    · intro w'
      go_simp
      with_reducible rfl
    rotate_left
    · simp only [Act.put, List.setIfInBounds_toArray, List.set_cons_zero, List.set_cons_succ, i64_w, i32_w]
      rfl
    refine pure_ (i := 21) (N := some 52) (v := ?_) (a' := ?_) #[true, true, true, true, true, true, true, true, true, true, true, true, true, true, true, true, true, true, false, false, true, true, false, false, false, false, false, false, false, false, false, false, false, false, false, false, false, false, false, false, false, false, false, false, false, false] rfl rfl (any_of HT_.out (by kernel_rfl)) (fun _ _ _ h => h) (Or.inl ⟨by rfl, ?_⟩) ?_ ?_
    rotate_left
    · intro w'
      go_simp
      with_reducible rfl
    rotate_left
    · simp only [Act.put, List.setIfInBounds_toArray, List.set_cons_zero, List.set_cons_succ, i64_w, i32_w]
      rfl
    refine pure_ (i := 22) (N := some 53) (v := ?_) (a' := ?_) #[true, true, true, true, true, true, true, true, true, true, true, true, true, true, true, true, true, true, false, false, true, true, true, false, false, false, false, false, false, false, false, false, false, false, false, false, false, false, false, false, false, false, false, false, false, false] rfl rfl (any_of HT_.out (by kernel_rfl)) (fun _ _ _ h => h) (Or.inl ⟨by rfl, ?_⟩) ?_ ?_
    rotate_left
    · intro w'
      go_simp
      with_reducible rfl
    rotate_left
    · simp only [Act.put, List.setIfInBounds_toArray, List.set_cons_zero, List.set_cons_succ, i64_w, i32_w]
      rfl
    refine pure_ (i := 23) (N := some 54) (v := ?_) (a' := ?_) #[true, true, true, true, true, true, true, true, true, true, true, true, true, true, true, true, true, true, false, false, true, true, true, true, false, false, false, false, false, false, false, false, false, false, false, false, false, false, false, false, false, false, false, false, false, false] rfl rfl (any_of HT_.out (by kernel_rfl)) (fun _ _ _ h => h) (Or.inl ⟨by rfl, ?_⟩) ?_ ?_
    rotate_left
    · intro w'
      go_simp
      with_reducible rfl
    rotate_left
    · simp only [Act.put, List.setIfInBounds_toArray, List.set_cons_zero, List.set_cons_succ, i64_w, i32_w]
      rfl
    refine pure_ (i := 24) (N := some 55) (v := ?_) (a' := ?_) #[true, true, true, true, true, true, true, true, true, true, true, true, true, true, true, true, true, true, false, false, true, true, true, true, true, false, false, false, false, false, false, false, false, false, false, false, false, false, false, false, false, false, false, false, false, false] rfl rfl (any_of HT_.out (by kernel_rfl)) (fun _ _ _ h => h) (Or.inl ⟨by rfl, ?_⟩) ?_ ?_
    rotate_left
    · intro w'
      go_simp
      with_reducible rfl
    rotate_left
    · simp only [Act.put, List.setIfInBounds_toArray, List.set_cons_zero, List.set_cons_succ, i64_w, i32_w]
      rfl
    refine one_ (i := 18) (N := some 49) #[true, true, true, true, true, true, true, true, true, true, true, true, true, true, true, true, true, true, true, false, true, true, true, true, true, false, false, false, false, false, false, false, false, false, false, false, false, false, false, false, false, false, false, false, false, false] rfl rfl (one_of HT_.out (by kernel_rfl)) (by decide) (fun K hK => ?_)
    refine goes_ Try.func14 (by kernel_rfl) rfl #[.agg #[.pointer p2], .agg #[.pointer p3]] (by rfl) rfl rfl (by (try simp only [List.map_toArray, List.map_cons, List.map_nil]); first | done | rfl) ?_
    refine (concat_any _ _ _ _ _ (F4.out.get 1 rfl).at_ K2.out (F4.out.get 2 rfl).at_ K3.out (by have := Z.out; rw [← txt_size, ← txt_size, T2.out, T3.out]; (try simp only [ByteArray.size_append]); omega)).mono ?_
    rintro e y5 ⟨vc, oc, rfl, ac, tc, kc, h⟩
    obtain ⟨qc, rfl⟩ := ac.ptr
    have F5 := Aside0.mk (F4.out.below h)
    have Ac := Aside0.mk ac
    have Tc := Aside0.mk tc
    have Kc := Aside0.mk kc
    clear h ac tc kc
    refine ⟨_, rfl, ?_⟩
    refine hK.out _ _ ⟨(F5.out.get 0 rfl).cell, (F5.out.get 1 rfl).cell, (F5.out.get 2 rfl).cell, (F5.out.get 3 rfl).cell⟩ (fun hHeld => ?_)
    clear hK K
    refine norm_ (a' := ?_) ?_ ?_
    rotate_left
    · show Act.put _ (some 49) _ = _
      simp only [Act.put, List.setIfInBounds_toArray, List.set_cons_zero, List.set_cons_succ, i64_w, i32_w]
      rfl
    refine one_ (i := 19) (N := some 50) #[true, true, true, true, true, true, true, true, true, true, true, true, true, true, true, true, true, true, true, true, true, true, true, true, true, false, false, false, false, false, false, false, false, false, false, false, false, false, false, false, false, false, false, false, false, false] rfl rfl (one_of HT_.out (by kernel_rfl)) (by decide) (fun K hK => ?_)
    refine goes_ Try.func14 (by kernel_rfl) rfl #[.agg #[.pointer p1], .agg #[.pointer qc]] (by rfl) rfl rfl (by (try simp only [List.map_toArray, List.map_cons, List.map_nil]); first | done | rfl) ?_
    refine (concat_any _ _ _ _ _ (F5.out.get 0 rfl).at_ K1.out Ac.out Kc.out (by have := Z.out; rw [← txt_size, ← txt_size, T1.out, Tc.out, T2.out, T3.out]; (try simp only [ByteArray.size_append]); omega)).mono ?_
    rintro e y6 ⟨vd, od, rfl, ad, td, kd, h⟩
    obtain ⟨qd, rfl⟩ := ad.ptr
    have F6 := Aside0.mk (F5.out.below h)
    have Ad := Aside0.mk ad
    have Td := Aside0.mk td
    have Kd := Aside0.mk kd
    clear h ad td kd
    refine ⟨_, rfl, ?_⟩
    refine hK.out _ _ ⟨(F6.out.get 0 rfl).cell, (F6.out.get 1 rfl).cell, (F6.out.get 2 rfl).cell, (F6.out.get 3 rfl).cell⟩ (fun hHeld => ?_)
    clear hK K
    refine norm_ (a' := ?_) ?_ ?_
    rotate_left
    · show Act.put _ (some 50) _ = _
      simp only [Act.put, List.setIfInBounds_toArray, List.set_cons_zero, List.set_cons_succ, i64_w, i32_w]
      rfl
    refine one_ (i := 25) (N := some 56) #[true, true, true, true, true, true, true, true, true, true, true, true, true, true, true, true, true, true, true, true, true, true, true, true, true, true, false, false, false, false, false, false, false, false, false, false, false, false, false, false, false, false, false, false, false, false] rfl rfl (one_of HT_.out (by kernel_rfl)) (by decide) (fun K hK => ?_)
    refine goes_ Try.func12 (by kernel_rfl) rfl #[.agg #[.pointer qd], .string ((s1 ++ s2) ++ s3)] (by rfl) rfl rfl (by (try simp only [List.map_toArray, List.map_cons, List.map_nil]); first | done | rfl) ?_
    have HH := (holds_txt (s := ((s1 ++ s2) ++ s3)) _ _ _ Ad.out Kd.out (by rw [Td.out, Tc.out, T1.out, T2.out, T3.out, app_assoc]) (by have := Z.out; (try simp only [ByteArray.size_append]); omega))
    refine HH.mono ?_
    rintro e y7 ⟨rfl, h⟩
    have F7 := Aside0.mk (F6.out.below h)
    clear h HH
    refine ⟨_, rfl, ?_⟩
    refine hK.out _ _ ⟨(F7.out.get 0 rfl).cell, (F7.out.get 1 rfl).cell, (F7.out.get 2 rfl).cell, (F7.out.get 3 rfl).cell⟩ (fun hHeld => ?_)
    clear hK K
    refine norm_ (a' := ?_) ?_ ?_
    rotate_left
    · show Act.put _ (some 56) _ = _
      simp only [Act.put, List.setIfInBounds_toArray, List.set_cons_zero, List.set_cons_succ, i64_w, i32_w]
      rfl
    refine pure_ (i := 26) (N := some 57) (v := ?_) (a' := ?_) #[true, true, true, true, true, true, true, true, true, true, true, true, true, true, true, true, true, true, true, true, true, true, true, true, true, true, true, false, false, false, false, false, false, false, false, false, false, false, false, false, false, false, false, false, false, false] rfl rfl (any_of HT_.out (by kernel_rfl)) (fun _ _ _ h => h) (Or.inl ⟨by rfl, ?_⟩) ?_ ?_
    rotate_left
    · intro w'
      go_simp
      with_reducible rfl
    rotate_left
    · simp only [Act.put, List.setIfInBounds_toArray, List.set_cons_zero, List.set_cons_succ, i64_w, i32_w]
      rfl
    refine pure_ (i := 27) (N := some 58) (v := ?_) (a' := ?_) #[true, true, true, true, true, true, true, true, true, true, true, true, true, true, true, true, true, true, true, true, true, true, true, true, true, true, true, true, false, false, false, false, false, false, false, false, false, false, false, false, false, false, false, false, false, false] rfl rfl (any_of HT_.out (by kernel_rfl)) (fun _ _ _ h => h) (Or.inl ⟨by rfl, ?_⟩) ?_ ?_
    rotate_left
    · intro w'
      go_simp
      with_reducible rfl
    rotate_left
    · simp only [Act.put, List.setIfInBounds_toArray, List.set_cons_zero, List.set_cons_succ, i64_w, i32_w]
      rfl
    refine take_ (i := 28) (N := some 59) (v := ?_) (a' := ?_) #[true, true, true, true, true, true, true, true, true, true, true, true, true, true, true, true, true, true, true, true, true, true, true, true, true, true, true, true, true, false, false, false, false, false, false, false, false, false, false, false, false, false, false, false, false, false] rfl rfl (take_of HT_.out (by kernel_rfl)) (fun _ _ _ h => h) (Or.inl ⟨by rfl, ?_⟩) hHeld ?_ ?_
    rotate_left
    · rintro w' ⟨s7, s8, s9, s10⟩
      go_simp
      with_reducible rfl
    rotate_left
    · simp only [Act.put, List.setIfInBounds_toArray, List.set_cons_zero, List.set_cons_succ, i64_w, i32_w]
      rfl
    refine take_ (i := 29) (N := some 60) (v := ?_) (a' := ?_) #[true, true, true, true, true, true, true, true, true, true, true, true, true, true, true, true, true, true, true, true, true, true, true, true, true, true, true, true, true, true, false, false, false, false, false, false, false, false, false, false, false, false, false, false, false, false] rfl rfl (take_of HT_.out (by kernel_rfl)) (fun _ _ _ h => h) (Or.inl ⟨by rfl, ?_⟩) hHeld ?_ ?_
    rotate_left
    · rintro w' ⟨s7, s8, s9, s10⟩
      go_simp
      with_reducible rfl
    rotate_left
    · simp only [Act.put, List.setIfInBounds_toArray, List.set_cons_zero, List.set_cons_succ, i64_w, i32_w]
      rfl
    refine pure_ (i := 31) (N := some 62) (v := ?_) (a' := ?_) #[true, true, true, true, true, true, true, true, true, true, true, true, true, true, true, true, true, true, true, true, true, true, true, true, true, true, true, true, true, true, false, true, false, false, false, false, false, false, false, false, false, false, false, false, false, false] rfl rfl (any_of HT_.out (by kernel_rfl)) (fun _ _ _ h => h) (Or.inl ⟨by rfl, ?_⟩) ?_ ?_
    rotate_left
    · intro w'
      go_simp
      with_reducible rfl
    rotate_left
    · simp only [Act.put, List.setIfInBounds_toArray, List.set_cons_zero, List.set_cons_succ, i64_w, i32_w]
      rfl
    refine one_ (i := 30) (N := some 61) #[true, true, true, true, true, true, true, true, true, true, true, true, true, true, true, true, true, true, true, true, true, true, true, true, true, true, true, true, true, true, true, true, false, false, false, false, false, false, false, false, false, false, false, false, false, false] rfl rfl (one_of HT_.out (by kernel_rfl)) (by decide) (fun K hK => ?_)
    refine goes_ Try.func14 (by kernel_rfl) rfl #[.agg #[.pointer none], .agg #[.pointer p1]] (by rfl) rfl rfl (by (try simp only [List.map_toArray, List.map_cons, List.map_nil]); first | done | rfl) ?_
    refine (concat_any _ _ _ _ _ (F7.out.get 3 rfl).at_ trivial (F7.out.get 0 rfl).at_ K1.out (by have := Z.out; rw [← txt_size, ← txt_size, T1.out]; show 0 + s1.size ≤ 100000; omega)).mono ?_
    rintro e y8 ⟨ve, oe, rfl, ae, te, ke, h⟩
    obtain ⟨qe, rfl⟩ := ae.ptr
    have F8 := Aside0.mk (F7.out.below h)
    have Ae := Aside0.mk ae
    have Te := Aside0.mk te
    have Ke := Aside0.mk ke
    clear h ae te ke
    refine ⟨_, rfl, ?_⟩
    refine hK.out _ _ ⟨(F8.out.get 0 rfl).cell, (F8.out.get 1 rfl).cell, (F8.out.get 2 rfl).cell, (F8.out.get 3 rfl).cell⟩ (fun hHeld => ?_)
    clear hK K
    refine norm_ (a' := ?_) ?_ ?_
    rotate_left
    · show Act.put _ (some 61) _ = _
      simp only [Act.put, List.setIfInBounds_toArray, List.set_cons_zero, List.set_cons_succ, i64_w, i32_w]
      rfl
    refine one_ (i := 32) (N := some 63) #[true, true, true, true, true, true, true, true, true, true, true, true, true, true, true, true, true, true, true, true, true, true, true, true, true, true, true, true, true, true, true, true, true, false, false, false, false, false, false, false, false, false, false, false, false, false] rfl rfl (one_of HT_.out (by kernel_rfl)) (by decide) (fun K hK => ?_)
    refine goes_ Try.func12 (by kernel_rfl) rfl #[.agg #[.pointer qe], .string s1] (by rfl) rfl rfl (by (try simp only [List.map_toArray, List.map_cons, List.map_nil]); first | done | rfl) ?_
    have HH := (holds_txt (s := s1) _ _ _ Ae.out Ke.out (by rw [Te.out, T1.out]; exact nil_app _) (by have := Z.out; (try simp only [ByteArray.size_append]); omega))
    refine HH.mono ?_
    rintro e y9 ⟨rfl, h⟩
    have F9 := Aside0.mk (F8.out.below h)
    clear h HH
    refine ⟨_, rfl, ?_⟩
    refine hK.out _ _ ⟨(F9.out.get 0 rfl).cell, (F9.out.get 1 rfl).cell, (F9.out.get 2 rfl).cell, (F9.out.get 3 rfl).cell⟩ (fun hHeld => ?_)
    clear hK K
    refine norm_ (a' := ?_) ?_ ?_
    rotate_left
    · show Act.put _ (some 63) _ = _
      simp only [Act.put, List.setIfInBounds_toArray, List.set_cons_zero, List.set_cons_succ, i64_w, i32_w]
      rfl
    refine pure_ (i := 33) (N := some 64) (v := ?_) (a' := ?_) #[true, true, true, true, true, true, true, true, true, true, true, true, true, true, true, true, true, true, true, true, true, true, true, true, true, true, true, true, true, true, true, true, true, true, false, false, false, false, false, false, false, false, false, false, false, false] rfl rfl (any_of HT_.out (by kernel_rfl)) (fun _ _ _ h => h) (Or.inl ⟨by rfl, ?_⟩) ?_ ?_
    rotate_left
    · intro w'
      go_simp
      with_reducible rfl
    rotate_left
    · simp only [Act.put, List.setIfInBounds_toArray, List.set_cons_zero, List.set_cons_succ, i64_w, i32_w]
      rfl
    refine pure_ (i := 34) (N := some 65) (v := ?_) (a' := ?_) #[true, true, true, true, true, true, true, true, true, true, true, true, true, true, true, true, true, true, true, true, true, true, true, true, true, true, true, true, true, true, true, true, true, true, true, false, false, false, false, false, false, false, false, false, false, false] rfl rfl (any_of HT_.out (by kernel_rfl)) (fun _ _ _ h => h) (Or.inl ⟨by rfl, ?_⟩) ?_ ?_
    rotate_left
    · intro w'
      go_simp
      with_reducible rfl
    rotate_left
    · simp only [Act.put, List.setIfInBounds_toArray, List.set_cons_zero, List.set_cons_succ, i64_w, i32_w]
      rfl
    refine take_ (i := 35) (N := some 66) (v := ?_) (a' := ?_) #[true, true, true, true, true, true, true, true, true, true, true, true, true, true, true, true, true, true, true, true, true, true, true, true, true, true, true, true, true, true, true, true, true, true, true, true, false, false, false, false, false, false, false, false, false, false] rfl rfl (take_of HT_.out (by kernel_rfl)) (fun _ _ _ h => h) (Or.inl ⟨by rfl, ?_⟩) hHeld ?_ ?_
    rotate_left
    · rintro w' ⟨s7, s8, s9, s10⟩
      go_simp
      with_reducible rfl
    rotate_left
    · simp only [Act.put, List.setIfInBounds_toArray, List.set_cons_zero, List.set_cons_succ, i64_w, i32_w]
      rfl
    refine take_ (i := 36) (N := some 67) (v := ?_) (a' := ?_) #[true, true, true, true, true, true, true, true, true, true, true, true, true, true, true, true, true, true, true, true, true, true, true, true, true, true, true, true, true, true, true, true, true, true, true, true, true, false, false, false, false, false, false, false, false, false] rfl rfl (take_of HT_.out (by kernel_rfl)) (fun _ _ _ h => h) (Or.inl ⟨by rfl, ?_⟩) hHeld ?_ ?_
    rotate_left
    · rintro w' ⟨s7, s8, s9, s10⟩
      go_simp
      with_reducible rfl
    rotate_left
    · simp only [Act.put, List.setIfInBounds_toArray, List.set_cons_zero, List.set_cons_succ, i64_w, i32_w]
      rfl
    refine pure_ (i := 38) (N := some 69) (v := ?_) (a' := ?_) #[true, true, true, true, true, true, true, true, true, true, true, true, true, true, true, true, true, true, true, true, true, true, true, true, true, true, true, true, true, true, true, true, true, true, true, true, true, false, true, false, false, false, false, false, false, false] rfl rfl (any_of HT_.out (by kernel_rfl)) (fun _ _ _ h => h) (Or.inl ⟨by rfl, ?_⟩) ?_ ?_
    rotate_left
    · intro w'
      go_simp
      with_reducible rfl
    rotate_left
    · simp only [Act.put, List.setIfInBounds_toArray, List.set_cons_zero, List.set_cons_succ, i64_w, i32_w]
      rfl
    refine one_ (i := 37) (N := some 68) #[true, true, true, true, true, true, true, true, true, true, true, true, true, true, true, true, true, true, true, true, true, true, true, true, true, true, true, true, true, true, true, true, true, true, true, true, true, true, true, false, false, false, false, false, false, false] rfl rfl (one_of HT_.out (by kernel_rfl)) (by decide) (fun K hK => ?_)
    refine goes_ Try.func14 (by kernel_rfl) rfl #[.agg #[.pointer p1], .agg #[.pointer none]] (by rfl) rfl rfl (by (try simp only [List.map_toArray, List.map_cons, List.map_nil]); first | done | rfl) ?_
    refine (concat_any _ _ _ _ _ (F9.out.get 0 rfl).at_ K1.out (F9.out.get 3 rfl).at_ trivial (by have := Z.out; rw [← txt_size, ← txt_size, T1.out]; show s1.size + 0 ≤ 100000; omega)).mono ?_
    rintro e y10 ⟨vf, of, rfl, af, tf, kf, h⟩
    obtain ⟨qf, rfl⟩ := af.ptr
    have F10 := Aside0.mk (F9.out.below h)
    have Af := Aside0.mk af
    have Tf := Aside0.mk tf
    have Kf := Aside0.mk kf
    clear h af tf kf
    refine ⟨_, rfl, ?_⟩
    refine hK.out _ _ ⟨(F10.out.get 0 rfl).cell, (F10.out.get 1 rfl).cell, (F10.out.get 2 rfl).cell, (F10.out.get 3 rfl).cell⟩ (fun hHeld => ?_)
    clear hK K
    refine norm_ (a' := ?_) ?_ ?_
    rotate_left
    · show Act.put _ (some 68) _ = _
      simp only [Act.put, List.setIfInBounds_toArray, List.set_cons_zero, List.set_cons_succ, i64_w, i32_w]
      rfl
    refine one_ (i := 39) (N := some 70) #[true, true, true, true, true, true, true, true, true, true, true, true, true, true, true, true, true, true, true, true, true, true, true, true, true, true, true, true, true, true, true, true, true, true, true, true, true, true, true, true, false, false, false, false, false, false] rfl rfl (one_of HT_.out (by kernel_rfl)) (by decide) (fun K hK => ?_)
    refine goes_ Try.func12 (by kernel_rfl) rfl #[.agg #[.pointer qf], .string s1] (by rfl) rfl rfl (by (try simp only [List.map_toArray, List.map_cons, List.map_nil]); first | done | rfl) ?_
    have HH := (holds_txt (s := s1) _ _ _ Af.out Kf.out (by rw [Tf.out, T1.out]; exact app_nil _) (by have := Z.out; (try simp only [ByteArray.size_append]); omega))
    refine HH.mono ?_
    rintro e y11 ⟨rfl, h⟩
    have F11 := Aside0.mk (F10.out.below h)
    clear h HH
    refine ⟨_, rfl, ?_⟩
    refine hK.out _ _ ⟨(F11.out.get 0 rfl).cell, (F11.out.get 1 rfl).cell, (F11.out.get 2 rfl).cell, (F11.out.get 3 rfl).cell⟩ (fun hHeld => ?_)
    clear hK K
    refine norm_ (a' := ?_) ?_ ?_
    rotate_left
    · show Act.put _ (some 70) _ = _
      simp only [Act.put, List.setIfInBounds_toArray, List.set_cons_zero, List.set_cons_succ, i64_w, i32_w]
      rfl
    refine pure_ (i := 40) (N := some 71) (v := ?_) (a' := ?_) #[true, true, true, true, true, true, true, true, true, true, true, true, true, true, true, true, true, true, true, true, true, true, true, true, true, true, true, true, true, true, true, true, true, true, true, true, true, true, true, true, true, false, false, false, false, false] rfl rfl (any_of HT_.out (by kernel_rfl)) (fun _ _ _ h => h) (Or.inl ⟨by rfl, ?_⟩) ?_ ?_
    rotate_left
    · intro w'
      go_simp
      with_reducible rfl
    rotate_left
    · simp only [Act.put, List.setIfInBounds_toArray, List.set_cons_zero, List.set_cons_succ, i64_w, i32_w]
      rfl
    refine pure_ (i := 41) (N := some 72) (v := ?_) (a' := ?_) #[true, true, true, true, true, true, true, true, true, true, true, true, true, true, true, true, true, true, true, true, true, true, true, true, true, true, true, true, true, true, true, true, true, true, true, true, true, true, true, true, true, true, false, false, false, false] rfl rfl (any_of HT_.out (by kernel_rfl)) (fun _ _ _ h => h) (Or.inl ⟨by rfl, ?_⟩) ?_ ?_
    rotate_left
    · intro w'
      go_simp
      with_reducible rfl
    rotate_left
    · simp only [Act.put, List.setIfInBounds_toArray, List.set_cons_zero, List.set_cons_succ, i64_w, i32_w]
      rfl
    refine take_ (i := 42) (N := some 73) (v := ?_) (a' := ?_) #[true, true, true, true, true, true, true, true, true, true, true, true, true, true, true, true, true, true, true, true, true, true, true, true, true, true, true, true, true, true, true, true, true, true, true, true, true, true, true, true, true, true, true, false, false, false] rfl rfl (take_of HT_.out (by kernel_rfl)) (fun _ _ _ h => h) (Or.inl ⟨by rfl, ?_⟩) hHeld ?_ ?_
    rotate_left
    · rintro w' ⟨s7, s8, s9, s10⟩
      go_simp
      with_reducible rfl
    rotate_left
    · simp only [Act.put, List.setIfInBounds_toArray, List.set_cons_zero, List.set_cons_succ, i64_w, i32_w]
      rfl
    refine one_ (i := 43) (N := some 74) #[true, true, true, true, true, true, true, true, true, true, true, true, true, true, true, true, true, true, true, true, true, true, true, true, true, true, true, true, true, true, true, true, true, true, true, true, true, true, true, true, true, true, true, true, false, false] rfl rfl (one_of HT_.out (by kernel_rfl)) (by decide) (fun K hK => ?_)
    refine goes_ Try.func12 (by kernel_rfl) rfl #[.agg #[.pointer none], .string ⟨#[]⟩] (by rfl) rfl rfl (by (try simp only [List.map_toArray, List.map_cons, List.map_nil]); first | done | rfl) ?_
    have HH := (holds_any none _ _ (F11.out.get 3 rfl).at_ trivial (Nat.zero_le _))
    refine HH.mono ?_
    rintro e y12 ⟨rfl, h⟩
    have F12 := Aside0.mk (F11.out.below h)
    clear h HH
    refine ⟨_, rfl, ?_⟩
    refine hK.out _ _ ⟨(F12.out.get 0 rfl).cell, (F12.out.get 1 rfl).cell, (F12.out.get 2 rfl).cell, (F12.out.get 3 rfl).cell⟩ (fun hHeld => ?_)
    clear hK K
    refine norm_ (a' := ?_) ?_ ?_
    rotate_left
    · show Act.put _ (some 74) _ = _
      simp only [Act.put, List.setIfInBounds_toArray, List.set_cons_zero, List.set_cons_succ, i64_w, i32_w]
      rfl
    refine pure_ (i := 44) (N := some 75) (v := ?_) (a' := ?_) #[true, true, true, true, true, true, true, true, true, true, true, true, true, true, true, true, true, true, true, true, true, true, true, true, true, true, true, true, true, true, true, true, true, true, true, true, true, true, true, true, true, true, true, true, true, false] rfl rfl (any_of HT_.out (by kernel_rfl)) (fun _ _ _ h => h) (Or.inl ⟨by rfl, ?_⟩) ?_ ?_
    rotate_left
    · intro w'
      go_simp
      with_reducible rfl
    rotate_left
    · simp only [Act.put, List.setIfInBounds_toArray, List.set_cons_zero, List.set_cons_succ, i64_w, i32_w]
      rfl
    refine pure_ (i := 45) (N := some 6) (v := ?_) (a' := ?_) #[true, true, true, true, true, true, true, true, true, true, true, true, true, true, true, true, true, true, true, true, true, true, true, true, true, true, true, true, true, true, true, true, true, true, true, true, true, true, true, true, true, true, true, true, true, true] rfl rfl (any_of HT_.out (by kernel_rfl)) (fun _ _ _ h => h) (Or.inl ⟨by rfl, ?_⟩) ?_ ?_
    rotate_left
    · intro w'
      go_simp
      with_reducible rfl
    rotate_left
    · simp only [Act.put, List.setIfInBounds_toArray, List.set_cons_zero, List.set_cons_succ, i64_w, i32_w]
      rfl
    refine done_ (done_of HT_.out (by kernel_rfl)) ?_
    try go_wp2
    go_ret
    exact ⟨rfl, F12.out.b⟩
end Go.Proofs.Ytmoceagbmgoijaa.Rop
