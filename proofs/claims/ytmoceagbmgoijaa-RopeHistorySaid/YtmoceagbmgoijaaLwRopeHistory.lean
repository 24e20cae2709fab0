/- A law of the rope: its call answers true, for all arguments. -/
import Derived.Test.YtmoceagbmgoijaaJoi
import Derived.KernelRfl
import Derived.RangeFuncNested
import Derived.RangeFuncBound
import Derived.RangeFuncCalls
import Derived.RangeFuncLeaves
import Derived.OwnWalkIn
import Derived.TacticsInMore
import Derived.LoopNIn
import Derived.LoopIn
import Derived.WalkKit
import Derived.Outline
import Derived.BigRegionIn
namespace Go.Proofs.Ytmoceagbmgoijaa.Rop
open Go.RowKit Go.Proofs.YtmoceagbmgoijaaW.PrintWords Go.Proofs.YtmoceagbmgoijaaW.PrintLast Go.Proofs.YtmoceagbmgoijaaW.PrintMore Go.Proofs.Ytmoceagbmgoijaa.Tre Go.Proofs.Ytmoceagbmgoijaa.PA
attribute [local go_sem] max2_int min2_int max_two min_two max_three min_three max_four min_four
set_option linter.unusedVariables false
set_option linter.unusedSimpArgs false

/-- the rope variable of the loop, from the door on -/
structure Gx (w : World) (rb : Nat) (p : Option Addr) (o : Option T) (x : World) : Prop where
  b : Below w.heap.size w x
  c : Cel x rb p o
  g : w.heap.size ≤ rb
theorem Gx.below {w x x' : World} {b : Nat} {p : Option Addr} {o : Option T} (h : Gx w b p o x) (hb : Below x.heap.size x x') : Gx w b p o x' := ⟨h.b.trans (hb.mono h.b.size), h.c.below hb, h.g⟩
theorem Gx.put {w x : World} {b : Nat} {p q : Option Addr} {o o' : Option T} (h : Gx w b p o x) (a : At x (.pointer q) o') : Gx w b q o' (x.setCell ⟨b, 0, none⟩ (.pointer q)) := ⟨h.b.setCell (p := ⟨b, 0, none⟩) h.g _, Cel.put h.c a, h.g⟩
theorem Gx.other {w x : World} {rb : Nat} {p : Option Addr} {o : Option T} (h : Gx w rb p o x) {b : Nat} {cs : Array Value} (hb : x.heap[b]? = some (.cells cs 26 (0, 0))) (hn : rb < b) (u : Value) : Gx w rb p o (x.setCell ⟨b, 0, none⟩ u) :=
  ⟨h.b.setCell (p := ⟨b, 0, none⟩) (by have := h.g; show w.heap.size ≤ b; omega) u, ⟨blk_far h.c.blk (p := ⟨b, 0, none⟩) (Nat.ne_of_lt hn) u, h.c.at_.set hb (by decide) 0 u⟩, h.g⟩
set_option maxHeartbeats 16000000 in
set_option maxRecDepth 100000 in
theorem history_law (s0 : ByteArray) (A0 : Option Addr) (n0 c0 : Nat) (eA eD : Nat → Int) (eI : Nat → ByteArray) (w : World)
    (hr : ∀ i, i < n0 → ∃ ad, A0 = some ad ∧ ∀ Y, Below w.heap.size w Y → Y.cell? (ad.add (i * 3)) = some (.int .i64 (eA i)) ∧ Y.cell? ⟨(ad.add (i * 3)).block, (ad.add (i * 3)).off + 1, none⟩ = some (.int .i64 (eD i)) ∧ Y.cell? ⟨(ad.add (i * 3)).block, (ad.add (i * 3)).off + 2, none⟩ = some (.string (eI i)))
    (hI : ∀ i, i < n0 → (eI i).size ≤ 140737488351232) (hc0 : n0 ≤ c0) :
    Calls Try.prog 9 #[.string s0, .slice A0 n0 c0] w fun e w' => e = .returned (.bool true) ∧ Below w.heap.size w w' := by
  have HR0 := Aside0.mk hr
  have HI0 := Aside0.mk hI
  clear hr hI
  by_cases c : 1000 < s0.size
  · have c1 : decide (1000 < (s0.size : Int)) = true := decide_eq_true (by omega)
    have c1x : decide (1000 < s0.size) = true := decide_eq_true c
    go_enter Try.func9, Try.ntmps9
    go_wp2_with (go_at_call 11; refine (awake_any _).mono ?_; rintro e x1 ⟨rfl, h⟩)
    go_ret
    exact ⟨rfl, h⟩
  have c1 : decide (1000 < (s0.size : Int)) = false := decide_eq_false (by omega)
  have c1x : decide (1000 < s0.size) = false := decide_eq_false c
  by_cases c2 : 40 < n0
  · have c3 : decide (40 < (n0 : Int)) = true := decide_eq_true (by omega)
    have c3x : decide (40 < n0) = true := decide_eq_true c2
    go_enter Try.func9, Try.ntmps9
    go_wp2_with (go_at_call 11; refine (awake_any _).mono ?_; rintro e x1 ⟨rfl, h⟩)
    go_ret
    exact ⟨rfl, h⟩
  have c3 : decide (40 < (n0 : Int)) = false := decide_eq_false (by omega)
  have c3x : decide (40 < n0) = false := decide_eq_false c2
  have HL : Aside0 (n0 ≤ 40) := Aside0.mk (by omega)
  have Z0 : Aside0 (s0.size ≤ 1000) := Aside0.mk (by omega)
  clear c c2 hc0
  go_enter Try.func9, Try.ntmps9
  go_wp2_with (go_at_call 13; refine (new_any s0 (by have := Z0.out; omega) _).mono ?_; rintro e x1 ⟨v1, o1, rfl, a1, t1, k1, h⟩; obtain ⟨p1, rfl⟩ := a1.ptr; have G0 : Aside0 (Gx w x1.heap.size p1 o1 (x1.alloc (.cells #[.pointer p1] 26))) := Aside0.mk ⟨h.trans ((bal x1 _).mono h.size), ⟨World.alloc_heap_new x1 _, a1.alloc _⟩, h.size⟩; have T1 := Aside0.mk t1; have K1 := Aside0.mk k1; clear h a1 t1 k1)
  obtain ⟨X2, hX2⟩ : ∃ X, x1.alloc (.cells #[.pointer p1] 26) = X := ⟨_, rfl⟩
  obtain ⟨rb, hrb⟩ : ∃ rb, rb = x1.heap.size := ⟨_, rfl⟩
  rw [hX2] at G0 ⊢
  rw [← hrb] at G0 ⊢
  replace hX2 := Aside0.mk hX2
  replace hrb := Aside0.mk hrb
  go_loopg [0, 6] n0 (fun kq v0 v6 X => ∃ (n : Nat) (acc : ByteArray) (p : Option Addr) (o : Option T), v0 = .string acc ∧ v6 = .int .i64 n ∧ Aside0 (n ≤ n0 ∧ n0 - n ≤ kq ∧ acc.size ≤ 2000) ∧ Aside0 (txt o = acc ∧ Ok o) ∧ Aside0 (Gx w rb p o X))
  case atStart => exact ⟨0, s0, p1, o1, rfl, (by first | rfl | (simp; done)), ⟨Nat.zero_le _, Nat.le_refl _, by have := Z0.out; omega⟩, ⟨T1.out, K1.out⟩, ⟨G0.out⟩⟩
  case round =>
    obtain ⟨n, acc, p, o, rfl, rfl, ⟨q1, q2, q3⟩, OKO, PW⟩ := hrel
    by_cases hlt : n < n0
    · obtain ⟨ad, ead, hY⟩ := HR0.out n hlt
      have hIn := HI0.out n hlt
      obtain ⟨A, hA0⟩ : ∃ A, eA n = A := ⟨_, rfl⟩
      obtain ⟨D, hD0⟩ : ∃ D, eD n = D := ⟨_, rfl⟩
      obtain ⟨ins, hI0⟩ : ∃ ins, eI n = ins := ⟨_, rfl⟩
      rw [hA0, hD0, hI0] at hY
      rw [hI0] at hIn
      clear hA0 hD0 hI0
      have HC := Aside0.mk hY
      clear hY
      obtain ⟨hx0, hx1, hx2⟩ := HC.out _ PW.out.b
      subst ead
      have l1 : ((n : Int) < (n0 : Int)) = True := eq_true (by omega)
      have l1x : (n < n0) = True := eq_true hlt
      have l2 : (0 ≤ (n : Int)) = True := eq_true (by omega)
      have l3 : IntKind.i64.wrap ((acc.size : Int) + (ins.size : Int)) = (acc.size : Int) + (ins.size : Int) := by rw [i64_w]; unfold wrap64; omega
      have l4 : wrap64 ((acc.size : Int) + (ins.size : Int)) = (acc.size : Int) + (ins.size : Int) := by unfold wrap64; omega
      have Q : Aside0 (n < n0 ∧ n0 - n ≤ gk) := Aside0.mk ⟨hlt, q2⟩
      have PX := Aside0.mk (PW.out.below (below_drew (Below.refl _ wr)))
      by_cases b1 : 2000 < acc.size + ins.size
      · have b2 : decide (2000 < (acc.size : Int) + (ins.size : Int)) = true := decide_eq_true (by omega)
        have b2x : decide (2000 < acc.size + ins.size) = true := decide_eq_true b1
        replace l3 := l3
        clear q1 q2 q3 hlt b1 PX
        go_wp2_with (go_at_call 11; refine (awake_any _).mono ?_; rintro e z1 ⟨rfl, h⟩; have PA := Aside0.mk (PW.out.below h); clear h)
        go_ret
        exact ⟨rfl, PA.out.b⟩
      have b2 : decide (2000 < (acc.size : Int) + (ins.size : Int)) = false := decide_eq_false (by omega)
      have b2x : decide (2000 < acc.size + ins.size) = false := decide_eq_false (by omega)
      have Z : Aside0 (acc.size + ins.size ≤ 2000) := Aside0.mk (by omega)
      obtain ⟨cd, nx, hcd⟩ : ∃ cd nx, rpC acc A D = cd ∧ rpP acc A D ins = nx := ⟨_, _, rfl, rfl⟩
      have hcd2 : cd = 0 ∨ cd = 2 := by rw [← hcd.1]; unfold rpC; split <;> simp
      have NZ : Aside0 (nx.size ≤ 2000) := Aside0.mk (by rw [← hcd.2]; have := rpP_size acc A D ins; omega)
      have CD := Aside0.mk hcd
      clear q1 q2 q3 hlt b1 hIn hcd
      have hcl := PW.out.c.cell
      go_wp2_with (fail)
      clear hcl
      refine start_ (n := 12) (S := fun w' => (w'.cell? (ad.add (n * 3)) = some (.int .i64 A) ∧ w'.cell? ⟨(ad.add (n * 3)).block, (ad.add (n * 3)).off + 1, none⟩ = some (.int .i64 D) ∧ w'.cell? ⟨(ad.add (n * 3)).block, (ad.add (n * 3)).off + 2, none⟩ = some (.string ins)) ∧ w'.cell? ⟨rb, 0, none⟩ = some (.pointer p)) (ds := []) #[false, false, false, false, false, false, false, false, false, false, false, false] (by kernel_rfl) rfl rfl ⟨HC.out _ PX.out.b, PX.out.c.cell⟩ (fun hHeld => ?_)
      refine with_tab (T := rtab .any (opsOf Try.f9 9)) rfl (fun HT_ => ?_)
      generalize wr.drew = X1 at PX hHeld ⊢
      refine take_ (i := 0) (N := some 42) (v := ?_) (a' := ?_) #[true, false, false, false, false, false, false, false, false, false, false, false] rfl rfl (take_of HT_.out (by kernel_rfl)) (fun _ _ _ h => h) (Or.inl ⟨by rfl, ?_⟩) hHeld ?_ ?_
      rotate_left
      · rintro w' ⟨⟨s0, s1, s2⟩, s3⟩
        go_simp
        with_reducible rfl
      rotate_left
      · simp only [Act.put, List.setIfInBounds_toArray, List.set_cons_zero, List.set_cons_succ, i64_w, i32_w]
        rfl
      refine pure_ (i := 1) (N := some 43) (v := ?_) (a' := ?_) #[true, true, false, false, false, false, false, false, false, false, false, false] rfl rfl (any_of HT_.out (by kernel_rfl)) (fun _ _ _ h => h) (Or.inl ⟨by rfl, ?_⟩) ?_ ?_
      rotate_left
      · intro w'
        go_simp
        with_reducible rfl
      rotate_left
      · simp only [Act.put, List.setIfInBounds_toArray, List.set_cons_zero, List.set_cons_succ, i64_w, i32_w]
        rfl
      refine pure_ (i := 2) (N := some 44) (v := ?_) (a' := ?_) #[true, true, true, false, false, false, false, false, false, false, false, false] rfl rfl (any_of HT_.out (by kernel_rfl)) (fun _ _ _ h => h) (Or.inl ⟨by rfl, ?_⟩) ?_ ?_
      rotate_left
      · intro w'
        go_simp
        with_reducible rfl
      rotate_left
      · simp only [Act.put, List.setIfInBounds_toArray, List.set_cons_zero, List.set_cons_succ, i64_w, i32_w]
        rfl
      refine pure_ (i := 3) (N := some 45) (v := ?_) (a' := ?_) #[true, true, true, true, false, false, false, false, false, false, false, false] rfl rfl (any_of HT_.out (by kernel_rfl)) (fun _ _ _ h => h) (Or.inl ⟨by rfl, ?_⟩) ?_ ?_
      rotate_left
      · intro w'
        go_simp
        with_reducible rfl
      rotate_left
      · simp only [Act.put, List.setIfInBounds_toArray, List.set_cons_zero, List.set_cons_succ, i64_w, i32_w]
        rfl
      refine take_ (i := 4) (N := some 46) (v := ?_) (a' := ?_) #[true, true, true, true, true, false, false, false, false, false, false, false] rfl rfl (take_of HT_.out (by kernel_rfl)) (fun _ _ _ h => h) (Or.inl ⟨by rfl, ?_⟩) hHeld ?_ ?_
      rotate_left
      · rintro w' ⟨⟨s0, s1, s2⟩, s3⟩
        go_simp
        with_reducible rfl
      rotate_left
      · simp only [Act.put, List.setIfInBounds_toArray, List.set_cons_zero, List.set_cons_succ, i64_w, i32_w]
        rfl
      refine join_ (σ := Option Addr × Nat) 2 #[true, true, true, true, true, true, true, true, true, true, false, false] (fun s => [(47, .tuple #[.agg #[.pointer s.1], .int .i64 cd]), (41, .tuple #[.agg #[.pointer s.1], .int .i64 cd]), (48, .agg #[.pointer s.1]), (49, .int .i64 cd), (7, .pointer (some ⟨s.2, 0, none⟩))]) (fun s y => Aside0 (Gx w rb p o y ∧ Cel y s.2 none none ∧ rb < s.2 ∧ ∃ o2, At y (.pointer s.1) o2 ∧ txt o2 = nx ∧ Ok o2)) ?_ ?_
      rotate_left
      · intro hCont
        refine two_ (i := 5) (j := 9) (Ni := some 47) (Nj := some 7) #[true, true, true, true, true, true, false, false, false, false, false, false] #[true, true, true, true, true, false, false, false, false, true, false, false] rfl rfl rfl rfl (by kernel_rfl) (by decide) (by decide) (fun K hK => ?_) (fun K hK => ?_)
        · skip
          refine goes_ Try.func15 (by kernel_rfl) rfl #[.agg #[.pointer p], .agg #[.int .i64 A, .int .i64 D, .string ins]] (by rfl) rfl rfl (by (try simp only [List.map_toArray, List.map_cons, List.map_nil]); first | done | rfl) ?_
          refine (replace_all o _ _ PX.out.c.at_ OKO.out.2 (by have := Z.out; rw [← txt_size, OKO.out.1]; omega) A D ins (by have := Z.out; omega)).mono ?_
          rw [OKO.out.1, CD.out.1, CD.out.2]
          rintro e y1 ⟨v2, o2, rfl, a2, t2, k2, h⟩
          obtain ⟨q2, rfl⟩ := a2.ptr
          have P1 := Aside0.mk (PX.out.below h)
          have R1 := Aside0.mk a2
          have T2 := Aside0.mk t2
          have K2 := Aside0.mk k2
          clear h a2 t2 k2
          refine ⟨_, rfl, ?_⟩
          refine hK.out _ _ ⟨HC.out _ P1.out.b, P1.out.c.cell⟩ (fun hHeld => ?_)
          clear hK K
          refine norm_ (a' := ?_) ?_ ?_
          rotate_left
          · show Act.put _ (some 47) _ = _
            simp only [Act.put, List.setIfInBounds_toArray, List.set_cons_zero, List.set_cons_succ, i64_w, i32_w]
            rfl
          refine pure_ (i := 6) (N := some 41) (v := ?_) (a' := ?_) #[true, true, true, true, true, true, true, false, false, false, false, false] rfl rfl (any_of HT_.out (by kernel_rfl)) (fun _ _ _ h => h) (Or.inl ⟨by rfl, ?_⟩) ?_ ?_
          rotate_left
          · intro w'
            go_simp
            with_reducible rfl
          rotate_left
          · simp only [Act.put, List.setIfInBounds_toArray, List.set_cons_zero, List.set_cons_succ, i64_w, i32_w]
            rfl
          refine pure_ (i := 7) (N := some 48) (v := ?_) (a' := ?_) #[true, true, true, true, true, true, true, true, false, false, false, false] rfl rfl (any_of HT_.out (by kernel_rfl)) (fun _ _ _ h => h) (Or.inl ⟨by rfl, ?_⟩) ?_ ?_
          rotate_left
          · intro w'
            go_simp
            with_reducible rfl
          rotate_left
          · simp only [Act.put, List.setIfInBounds_toArray, List.set_cons_zero, List.set_cons_succ, i64_w, i32_w]
            rfl
          refine pure_ (i := 8) (N := some 49) (v := ?_) (a' := ?_) #[true, true, true, true, true, true, true, true, true, false, false, false] rfl rfl (any_of HT_.out (by kernel_rfl)) (fun _ _ _ h => h) (Or.inl ⟨by rfl, ?_⟩) ?_ ?_
          rotate_left
          · intro w'
            go_simp
            with_reducible rfl
          rotate_left
          · simp only [Act.put, List.setIfInBounds_toArray, List.set_cons_zero, List.set_cons_succ, i64_w, i32_w]
            rfl
          refine one_ (i := 9) (N := some 7) #[true, true, true, true, true, true, true, true, true, true, false, false] rfl rfl (one_of HT_.out (by kernel_rfl)) (by decide) (fun K hK => ?_)
          refine value_ (w1 := ?_) (v := ?_) (by rfl) rfl ?_ ?_
          rotate_left 2
          · go_simp
            first | (constructor <;> rfl) | rfl
          have C2 := Aside0.mk (Cel.new (x := y1) (p := none) (o := none) rfl)
          have BB := Aside0.mk (lt_of_some P1.out.c.blk)
          have P2 := Aside0.mk (P1.out.below (bal y1 (.cells #[.pointer none] 26)))
          have R2 := Aside0.mk (R1.out.alloc (.cells #[.pointer none] 26))
          obtain ⟨z2, hz2⟩ : ∃ z, y1.alloc (.cells #[.pointer none] 26) = z := ⟨_, rfl⟩
          rw [hz2] at P2 C2 R2 ⊢
          clear hz2
          refine hK.out _ _ ⟨HC.out _ P2.out.b, P2.out.c.cell⟩ (fun hHeld => ?_)
          clear hK K
          refine norm_ (a' := ?_) ?_ ?_
          rotate_left
          · show Act.put _ (some 7) _ = _
            simp only [Act.put, List.setIfInBounds_toArray, List.set_cons_zero, List.set_cons_succ, i64_w, i32_w]
            rfl
          exact norm_ (by simp only [putAll, Act.put, List.setIfInBounds_toArray, List.set_cons_zero, List.set_cons_succ]) (hCont (q2, y1.heap.size) _ ⟨P2.out, C2.out, BB.out, o2, R2.out, T2.out, K2.out⟩)
        · skip
          refine value_ (w1 := ?_) (v := ?_) (by rfl) rfl ?_ ?_
          rotate_left 2
          · go_simp
            first | (constructor <;> rfl) | rfl
          have C3 := Aside0.mk (Cel.new (x := X1) (p := none) (o := none) rfl)
          have BB := Aside0.mk (lt_of_some PX.out.c.blk)
          have P3 := Aside0.mk (PX.out.below (bal X1 (.cells #[.pointer none] 26)))
          obtain ⟨z3, hz3⟩ : ∃ z, X1.alloc (.cells #[.pointer none] 26) = z := ⟨_, rfl⟩
          rw [hz3] at P3 C3 ⊢
          clear hz3
          refine hK.out _ _ ⟨HC.out _ P3.out.b, P3.out.c.cell⟩ (fun hHeld => ?_)
          clear hK K
          refine norm_ (a' := ?_) ?_ ?_
          rotate_left
          · show Act.put _ (some 7) _ = _
            simp only [Act.put, List.setIfInBounds_toArray, List.set_cons_zero, List.set_cons_succ, i64_w, i32_w]
            rfl
          refine one_ (i := 5) (N := some 47) #[true, true, true, true, true, true, false, false, false, true, false, false] rfl rfl (one_of HT_.out (by kernel_rfl)) (by decide) (fun K hK => ?_)
          refine goes_ Try.func15 (by kernel_rfl) rfl #[.agg #[.pointer p], .agg #[.int .i64 A, .int .i64 D, .string ins]] (by rfl) rfl rfl (by (try simp only [List.map_toArray, List.map_cons, List.map_nil]); first | done | rfl) ?_
          refine (replace_all o _ _ P3.out.c.at_ OKO.out.2 (by have := Z.out; rw [← txt_size, OKO.out.1]; omega) A D ins (by have := Z.out; omega)).mono ?_
          rw [OKO.out.1, CD.out.1, CD.out.2]
          rintro e y4 ⟨v2, o2, rfl, a2, t2, k2, h⟩
          obtain ⟨q2, rfl⟩ := a2.ptr
          have P4 := Aside0.mk (P3.out.below h)
          have C4 := Aside0.mk (C3.out.below h)
          have R4 := Aside0.mk a2
          have T2 := Aside0.mk t2
          have K2 := Aside0.mk k2
          clear h a2 t2 k2
          refine ⟨_, rfl, ?_⟩
          refine hK.out _ _ ⟨HC.out _ P4.out.b, P4.out.c.cell⟩ (fun hHeld => ?_)
          clear hK K
          refine norm_ (a' := ?_) ?_ ?_
          rotate_left
          · show Act.put _ (some 47) _ = _
            simp only [Act.put, List.setIfInBounds_toArray, List.set_cons_zero, List.set_cons_succ, i64_w, i32_w]
            rfl
          refine pure_ (i := 6) (N := some 41) (v := ?_) (a' := ?_) #[true, true, true, true, true, true, true, false, false, true, false, false] rfl rfl (any_of HT_.out (by kernel_rfl)) (fun _ _ _ h => h) (Or.inl ⟨by rfl, ?_⟩) ?_ ?_
          rotate_left
          · intro w'
            go_simp
            with_reducible rfl
          rotate_left
          · simp only [Act.put, List.setIfInBounds_toArray, List.set_cons_zero, List.set_cons_succ, i64_w, i32_w]
            rfl
          refine pure_ (i := 7) (N := some 48) (v := ?_) (a' := ?_) #[true, true, true, true, true, true, true, true, false, true, false, false] rfl rfl (any_of HT_.out (by kernel_rfl)) (fun _ _ _ h => h) (Or.inl ⟨by rfl, ?_⟩) ?_ ?_
          rotate_left
          · intro w'
            go_simp
            with_reducible rfl
          rotate_left
          · simp only [Act.put, List.setIfInBounds_toArray, List.set_cons_zero, List.set_cons_succ, i64_w, i32_w]
            rfl
          refine pure_ (i := 8) (N := some 49) (v := ?_) (a' := ?_) #[true, true, true, true, true, true, true, true, true, true, false, false] rfl rfl (any_of HT_.out (by kernel_rfl)) (fun _ _ _ h => h) (Or.inl ⟨by rfl, ?_⟩) ?_ ?_
          rotate_left
          · intro w'
            go_simp
            with_reducible rfl
          rotate_left
          · simp only [Act.put, List.setIfInBounds_toArray, List.set_cons_zero, List.set_cons_succ, i64_w, i32_w]
            rfl
          exact norm_ (by simp only [putAll, Act.put, List.setIfInBounds_toArray, List.set_cons_zero, List.set_cons_succ]) (hCont (q2, X1.heap.size) _ ⟨P4.out, C4.out, BB.out, o2, R4.out, T2.out, K2.out⟩)
      rintro ⟨q2, b⟩ y ⟨hP, hC, hbb, o2, hA, hT, hK2⟩
      refine norm_ (a' := ?_) ?_ ?_
      rotate_left
      · simp only [putAll, Act.put, List.setIfInBounds_toArray, List.set_cons_zero, List.set_cons_succ]
        rfl
      refine one_ (i := 10) (N := none) #[true, true, true, true, true, true, true, true, true, true, true, false] rfl rfl (one_of HT_.out (by kernel_rfl)) (by decide) (fun K hK => ?_)
      have hcc := hC.cell
      have hff := fun q => blk_frozen hC.blk q
      refine skip_ (w1 := ?_) (by rfl) rfl ?_ ?_
      rotate_left
      · go_simp
        rfl
      have PZ := Aside0.mk (Gx.other hP hC.blk hbb (.pointer q2))
      have CZ := Aside0.mk (Cel.put hC hA)
      have TZ := Aside0.mk hT
      have KZ := Aside0.mk hK2
      have BZ := Aside0.mk hbb
      clear hP hC hbb hA hT hK2 hcc hff
      refine hK.out _ _ ⟨HC.out _ PZ.out.b, PZ.out.c.cell⟩ (fun hHeld => ?_)
      clear hK K
      obtain ⟨Y, hY⟩ : ∃ Y, y.setCell ⟨b, 0, none⟩ (.pointer q2) = Y := ⟨_, rfl⟩
      rw [hY] at PZ CZ hHeld ⊢
      clear hY
      refine pure_ (i := 11) (N := some 8) (v := ?_) (a' := ?_) #[true, true, true, true, true, true, true, true, true, true, true, true] rfl rfl (any_of HT_.out (by kernel_rfl)) (fun _ _ _ h => h) (Or.inl ⟨by rfl, ?_⟩) ?_ ?_
      rotate_left
      · intro w'
        go_simp
        with_reducible rfl
      rotate_left
      · simp only [Act.put, List.setIfInBounds_toArray, List.set_cons_zero, List.set_cons_succ, i64_w, i32_w]
        rfl
      refine done_ (done_of HT_.out (by kernel_rfl)) ?_
      have hcr := PZ.out.c.cell
      obtain ⟨f0, f1, f2⟩ := HC.out _ PZ.out.b
      clear hx0 hx1 hx2
      have JJ : Calls Try.prog 16 #[.string acc, .agg #[.int .i64 A, .int .i64 D, .string ins]] Y fun e w' => e = .returned (.tuple #[.string nx, .int .i64 cd]) ∧ Below Y.heap.size Y w' := by
        have := refReplace_all acc (by have := Z.out; omega) A D ins (by have := Z.out; omega) Y
        rwa [CD.out.1, CD.out.2] at this
      replace JJ := Aside0.mk JJ
      rcases hcd2 with rfl | rfl
      · go_wp2_with (go_at_call 16; refine JJ.out.mono ?_; rintro e z1 ⟨rfl, h⟩; have PA := Aside0.mk (PZ.out.below h); have CA := Aside0.mk (CZ.out.below h); have d1 := CA.out.cell; have d2 := PA.out.c.cell; have d3 := fun q => blk_frozen PA.out.c.blk q; have PB := Aside0.mk (PA.out.put CA.out.at_); obtain ⟨Y2, hY2⟩ : ∃ Y2, z1.setCell ⟨rb, 0, none⟩ (.pointer q2) = Y2 := ⟨_, rfl⟩; rw [hY2] at PB; have e1 := PB.out.c.cell; clear h)
        go_at_call 12
        refine (holds_txt (s := nx) _ _ _ PB.out.c.at_ KZ.out TZ.out (by have := NZ.out; omega)).mono ?_
        rintro e z2 ⟨rfl, h⟩
        have PC := Aside0.mk (PB.out.below h)
        clear h
        go_wp2
        go_roundg (n0 - (n + 1))
        case measure => have := Q.out; omega
        case rel => exact ⟨n + 1, nx, q2, _, rfl, (by first | rfl | (simp; done) | (have := Q.out; have := HL.out; simp; unfold wrap64; omega)), ⟨by have := Q.out; omega, by have := Q.out; omega, NZ.out⟩, ⟨TZ.out, KZ.out⟩, ⟨PC.out⟩⟩
      · go_wp2_with (go_at_call 16; refine JJ.out.mono ?_; rintro e z1 ⟨rfl, h⟩; have PA := Aside0.mk (PZ.out.below h); clear h)
        go_roundg (n0 - (n + 1))
        case measure => have := Q.out; omega
        case rel => exact ⟨n + 1, acc, p, o, rfl, (by first | rfl | (simp; done) | (have := Q.out; have := HL.out; simp; unfold wrap64; omega)), ⟨by have := Q.out; omega, by have := Q.out; omega, by have := Z.out; omega⟩, OKO, ⟨PA.out⟩⟩
    · have l1 : ((n : Int) < (n0 : Int)) = False := eq_false (by omega)
      have l1x : (n < n0) = False := eq_false hlt
      have hcl := PW.out.c.cell
      have SB : Aside0 (siz o ≤ 100000) := Aside0.mk (by rw [← txt_size, OKO.out.1]; omega)
      clear q1 q2 q3 hlt
      go_wp2_with (go_at_call 26; refine (joined_any o _ _ PW.out.c.at_ OKO.out.2 SB.out).mono ?_; rw [OKO.out.1]; rintro e z1 ⟨rfl, h⟩; have PA := Aside0.mk (PW.out.below h); clear h)
      go_wp2_with (go_at_call 11; refine (awake_any _).mono ?_; rintro e z2 ⟨rfl, h⟩; have PB := Aside0.mk (PA.out.below h); clear h)
      go_wp2
      go_ret
      exact ⟨rfl, PB.out.b⟩
end Go.Proofs.Ytmoceagbmgoijaa.Rop
