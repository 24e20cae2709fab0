/- The walks over the package rope: join, slice and the methods. -/
import Derived.Test.YtmoceagbmgoijaaProg
import Derived.Test.YtmoceagbmgoijaaWMore
import Derived.Test.YtmoceagbmgoijaaWGuard
import Derived.Test.YtmoceagbmgoijaaWLast
import Derived.Test.YtmoceagbmgoijaaWTab
import Derived.Test.YtmoceagbmgoijaaRnd
import Derived.Test.YtmoceagbmgoijaaTre
import Derived.Test.YtmoceagbmgoijaaShf
import Derived.Test.YtmoceagbmgoijaaBld
import Derived.BigCall
import Derived.StillTailTactics
import Derived.WalkKit
import Derived.Outline
import Derived.Test.YtmoceagbmgoijaaRop
namespace Go.Proofs.Ytmoceagbmgoijaa.Rop
open Go.RowKit Go.Proofs.YtmoceagbmgoijaaW.PrintWords Go.Proofs.YtmoceagbmgoijaaW.PrintLast Go.Proofs.YtmoceagbmgoijaaW.PrintMore Go.Proofs.Ytmoceagbmgoijaa.Tre
attribute [local go_sem] max2_int min2_int max_two min_two max_three min_three max_four min_four
set_option linter.unusedVariables false
set_option linter.unusedSimpArgs false

/-- what join and slice leave -/
def Tree (s : ByteArray) (w : World) (e : Ending) (w' : World) : Prop := ∃ v o, e = .returned v ∧ At w' v o ∧ txt o = s ∧ Ok o ∧ Below w.heap.size w w'
set_option maxHeartbeats 2000000 in
set_option maxRecDepth 100000 in
theorem join_any (o1 o2 : Option T) (v1 v2 : Value) (w : World) (a1 : At w v1 o1) (k1 : Ok o1) (a2 : At w v2 o2) (k2 : Ok o2) (hs : siz o1 + siz o2 ≤ 100000) (h1 : hgt o1 ≤ 100000) (h2 : hgt o2 ≤ 100000) :
    Calls Try.prog 29 #[v1, v2] w fun e w' => Tree (txt o1 ++ txt o2) w e w' := by
  cases o1 with
  | none =>
    obtain rfl : v1 = .pointer none := a1
    go_enter Try.func29, Try.ntmps29
    go_wp2
    go_ret
    exact ⟨v2, o2, rfl, a2, (nil_app _).symm, k2, Below.refl _ _⟩
  | some l =>
    cases o2 with
    | none =>
      obtain rfl : v2 = .pointer none := a2
      obtain ⟨bl, rfl, hl⟩ := a1
      go_enter Try.func29, Try.ntmps29
      go_wp2
      go_ret
      exact ⟨_, some l, rfl, ⟨bl, rfl, hl⟩, (app_nil _).symm, k1, Below.refl _ _⟩
    | some r =>
      obtain ⟨bl, rfl, hl⟩ := a1
      obtain ⟨br, rfl, hr⟩ := a2
      have hi := inner_any l r bl br w hl hr hs h1 h2
      go_enter Try.func29, Try.ntmps29
      go_wp2_with (go_at_call 35; refine hi.mono ?_)
      rintro e w1 ⟨b, rfl, ht, hb⟩
      clear hi
      have hz : (T.node l r).size ≤ 100000 := hs
      obtain ⟨vl, vr, hk⟩ := ht.blk
      have c3 : w1.cell? ⟨b, 3, none⟩ = some (.int .i64 (T.node l r).size) := by rw [Lib.cell_of_heap hk]; rfl
      have c4 : w1.cell? ⟨b, 4, none⟩ = some (.int .i64 (T.node l r).height) := by rw [Lib.cell_of_heap hk]; rfl
      obtain ⟨t, hT0⟩ : ∃ t, t = T.node l r := ⟨_, rfl⟩
      rw [← hT0] at c3 c4 hz ht
      clear hk
      have hT := Aside0.mk hT0
      clear hT0
      have fin : ∀ W, Below w1.heap.size w1 W → Calls Try.prog 31 #[.pointer (some ⟨b, 0, none⟩)] W fun e w' => e = .returned (.string (txt (some t))) ∧ Below W.heap.size W w' := fun W hW => text_any (some t) _ W (At.below hW ⟨b, rfl, ht⟩) (by show t.size ≤ _; omega)
      have hts : (txt (some t)).size ≤ 100000 := by rw [txt_size]; exact hz
      have htx : Aside0 (txt (some t) = txt (some l) ++ txt (some r)) := Aside0.mk (by rw [hT.out]; rfl)
      by_cases c : t.size ≤ 64
      · have d1 : decide ((t.size : Int) ≤ 64) = true := decide_eq_true (by omega)
        have d1x : decide (t.size ≤ 64) = true := decide_eq_true (by omega)
        go_wp2_with (fail)
        go_quiet (fail)
        obtain ⟨W, hW⟩ : ∃ W, w1.drewN nq = W := ⟨_, rfl⟩
        rw [hW]
        have hbW : Below w1.heap.size w1 W := hW ▸ pw_below_drewN (Below.refl _ _) nq
        clear hW
        go_wp2_with (go_at_call 31; refine (fin W hbW).mono ?_; rintro e w3 ⟨rfl, b3⟩)
        go_wp2_with (go_at_call 28; refine (build_any _ hts w3).mono ?_; rintro e w4 ⟨v4, o4, rfl, a4, t4, k4, _, b4⟩)
        go_wp2
        go_ret
        have z1 := hb.size
        have z2 := hbW.size
        have z3 := b3.size
        exact ⟨v4, o4, rfl, a4, t4.trans htx.out, k4, ((hb.trans (hbW.mono z1)).trans (b3.mono (by omega))).trans (b4.mono (by omega))⟩
      · have d1 : decide ((t.size : Int) ≤ 64) = false := decide_eq_false (by omega)
        have d1x : decide (t.size ≤ 64) = false := decide_eq_false (by omega)
        by_cases c' : bnd t.size < t.height
        · have d2 : decide ((bnd t.size : Int) < (t.height : Int)) = true := decide_eq_true (by omega)
          have d2x : decide (bnd t.size < t.height) = true := decide_eq_true (by omega)
          go_wp2_with (fail)
          go_quiet (first | (go_at_call 36; refine Calls.quiet_of (bound_q _ hz _)))
          obtain ⟨W, hW⟩ : ∃ W, w1.drewN nq = W := ⟨_, rfl⟩
          rw [hW]
          have hbW : Below w1.heap.size w1 W := hW ▸ pw_below_drewN (Below.refl _ _) nq
          clear hW
          go_wp2_with (go_at_call 31; refine (fin W hbW).mono ?_; rintro e w3 ⟨rfl, b3⟩)
          go_wp2_with (go_at_call 28; refine (build_any _ hts w3).mono ?_; rintro e w4 ⟨v4, o4, rfl, a4, t4, k4, _, b4⟩)
          go_wp2
          go_ret
          have z1 := hb.size
          have z2 := hbW.size
          have z3 := b3.size
          exact ⟨v4, o4, rfl, a4, t4.trans htx.out, k4, ((hb.trans (hbW.mono z1)).trans (b3.mono (by omega))).trans (b4.mono (by omega))⟩
        · have d2 : decide ((bnd t.size : Int) < (t.height : Int)) = false := decide_eq_false (by omega)
          have d2x : decide (bnd t.size < t.height) = false := decide_eq_false (by omega)
          clear fin
          go_wp2_with (fail)
          go_quiet (first | (go_at_call 36; refine Calls.quiet_of (bound_q _ hz _)))
          go_wp2
          go_ret
          refine ⟨_, some t, rfl, At.drewN nq ⟨b, rfl, ht⟩, htx.out, ?_, pw_below_drewN hb nq⟩
          rw [hT.out] at c c' ⊢
          exact OK.node k1 k2 (by omega) (by omega)
theorem bnd_le (n : Nat) : bnd n ≤ 130 := by
  unfold bnd
  split
  · omega
  · have : bl ((n + 63) / 64 - 1) ≤ 64 := bitLenAux_le 64 _
    omega
theorem wrapN (n : Nat) (h : n ≤ 100000) : wrap64 (n : Int) = (n : Int) := by unfold wrap64; omega
theorem wrapM (n : Nat) (h : n ≤ 100000) : IntKind.i64.wrap (n : Int) = (n : Int) := by rw [i64_w]; exact wrapN n h
theorem Ok.low {o : Option T} (h : Ok o) : hgt o ≤ 130 := Nat.le_trans h.high (bnd_le _)
theorem join_ok (o1 o2 : Option T) (v1 v2 : Value) (w : World) (a1 : At w v1 o1) (k1 : Ok o1) (a2 : At w v2 o2) (k2 : Ok o2) (hs : siz o1 + siz o2 ≤ 100000) :
    Calls Try.prog 29 #[v1, v2] w fun e w' => Tree (txt o1 ++ txt o2) w e w' :=
  join_any o1 o2 v1 v2 w a1 k1 a2 k2 hs (by have := Ok.low k1; omega) (by have := Ok.low k2; omega)
theorem keepN {w W : World} {t : T} {b : Nat} (h : TrN t b w) (hb : Below w.heap.size w W) : TrN t b W := TrN.keep (fun k cs hc => (hb.block k (lt_of_some hc)).trans hc) t b h
theorem cellN {w W : World} {k : Nat} {cs : Array Value} {tt : Nat} {z : Nat × Nat} (hb : Below w.heap.size w W) (h : w.heap[k]? = some (.cells cs tt z)) (i : Nat) {u : Value} (hu : cs[i]? = some u) : W.cell? ⟨k, i, none⟩ = some u := by
  rw [Lib.cell_of_heap ((hb.block k (lt_of_some h)).trans h)]; exact hu
def SliceOk (t : T) : Prop := ∀ k : Nat, OK t → t.size ≤ 100000 → ∀ (f z : Nat) (w : World), TrN t k w → z ≤ t.size →
    Calls Try.prog 30 #[.pointer (some ⟨k, 0, none⟩), .int .i64 f, .int .i64 z] w fun e w' => Tree (t.text.extract f z) w e w'
set_option maxHeartbeats 8000000 in
set_option maxRecDepth 100000 in
theorem slice_step (t : T) (ih : ∀ l r : T, t = .node l r → SliceOk l ∧ SliceOk r) : SliceOk t := by
    intro k ok hs f z w ht hz
    by_cases c1 : z ≤ f
    · have d1 : decide ((z : Int) ≤ (f : Int)) = true := decide_eq_true (by omega)
      go_enter Try.func30, Try.ntmps30
      go_wp2
      go_ret
      exact ⟨_, none, rfl, rfl, (ext_nil _ c1).symm, trivial, Below.refl _ _⟩
    · have d1 : decide ((z : Int) ≤ (f : Int)) = false := decide_eq_false (by omega)
      have d1x : ((z : Int) ≤ (f : Int)) = False := eq_false (by omega)
      obtain ⟨vl, vr, hk⟩ := ht.blk
      by_cases c2 : f = 0 ∧ z = t.size
      · obtain ⟨rfl, rfl⟩ := c2
        have c3 : w.cell? ⟨k, 3, none⟩ = some (.int .i64 t.size) := by rw [Lib.cell_of_heap hk]; rfl
        have e9 : decide (t.size = 0) = false := decide_eq_false (by omega)
        clear hk
        go_enter Try.func30, Try.ntmps30
        go_wp2
        go_ret
        exact ⟨_, some t, rfl, ⟨k, rfl, ht⟩, (ext_all _ (by rw [txt_size]; exact Nat.le_refl _)).symm, ok, Below.refl _ _⟩
      · rcases (by omega : (f = 0 ∧ ¬ z = t.size) ∨ ¬ f = 0) with ⟨f0, z0⟩ | f0
        · have e0 : ((f : Int) == 0) = true := by rw [f0]; rfl
          have e0x : (f == 0) = true := by rw [f0]; rfl
          have e0y : decide (f = 0) = true := decide_eq_true f0
          have e1 : ((z : Int) == (t.size : Int)) = false := beq_eq_false_iff_ne.2 (by omega)
          have e1x : (z == t.size) = false := beq_eq_false_iff_ne.2 z0
          have e1y : decide (z = t.size) = false := decide_eq_false z0
          replace f0 := Aside0.mk f0
          replace z0 := Aside0.mk z0
          have c3 : w.cell? ⟨k, 3, none⟩ = some (.int .i64 t.size) := by rw [Lib.cell_of_heap hk]; rfl
          cases t with
          | leaf s =>
            have c0 : w.cell? ⟨k, 0, none⟩ = some (.string s) := by rw [Lib.cell_of_heap ht]; rfl
            have c4 : w.cell? ⟨k, 1, none⟩ = some (.pointer none) := by rw [Lib.cell_of_heap ht]; rfl
            have m0 : (0 ≤ (f : Int)) = True := eq_true (by omega)
            have m1 : ((f : Int) ≤ (z : Int)) = True := eq_true (by omega)
            have m1x : (f ≤ z) = True := eq_true (by omega)
            have zz : z ≤ s.size := hz
            have m2 : ((z : Int) ≤ (s.size : Int)) = True := eq_true (by omega)
            have m2x : (z ≤ s.size) = True := eq_true (by omega)
            have ls : (s.extract f z).size ≤ 64 := by cases ok with | leaf q1 q2 => rw [ByteArray.size_extract]; omega
            have LS := Aside0.mk ls
            clear hk ht ls hz zz
            go_enter Try.func30, Try.ntmps30
            go_wp2_with (go_at_call 34; refine (leaf_any (s.extract f z) LS.out w).mono ?_; rintro e w' ⟨v, o, rfl, h1, h2, h3, h4, h5⟩)
            go_ret
            exact ⟨v, o, rfl, h1, h2, h3, h5⟩
          | node l r =>
            obtain ⟨bl, br, h0, hl, hr⟩ := ht
            obtain ⟨ihl, ihr⟩ := ih l r rfl
            obtain ⟨okl, okr⟩ : OK l ∧ OK r := by cases ok with | node a b _ _ => exact ⟨a, b⟩
            have szn : (T.node l r).size = l.size + r.size := rfl
            have sl : l.size ≤ 100000 := by omega
            have sr : r.size ≤ 100000 := by omega
            have c4 : w.cell? ⟨k, 1, none⟩ = some (.pointer (some ⟨bl, 0, none⟩)) := by rw [Lib.cell_of_heap h0]; rfl
            have c5 : w.cell? ⟨k, 2, none⟩ = some (.pointer (some ⟨br, 0, none⟩)) := by rw [Lib.cell_of_heap h0]; rfl
            obtain ⟨ul, ur, hkl⟩ := hl.blk
            have c6 : w.cell? ⟨bl, 3, none⟩ = some (.int .i64 l.size) := by rw [Lib.cell_of_heap hkl]; rfl
            by_cases q1 : z ≤ l.size
            · have g1 : decide ((z : Int) ≤ (l.size : Int)) = true := decide_eq_true (by omega)
              have g1x : ((z : Int) ≤ (l.size : Int)) = True := eq_true (by omega)
              have g1y : (z ≤ l.size) = True := eq_true (by omega)
              have IHL := Aside0.mk (ihl bl okl sl f z w hl q1)
              have EX := Aside0.mk (ext_left l.text r.text (p := f) (q := z) (by rw [T.text_size]; exact q1))
              clear hk hkl hl hr h0 ih ihl ihr okl okr szn sl sr ok hs hz q1
              go_enter Try.func30, Try.ntmps30
              go_wp2_with (go_at_call 30; refine IHL.out.mono ?_; rintro e w' ⟨v, o, rfl, h1, h2, h3, h5⟩)
              go_wp2
              go_ret
              exact ⟨v, o, rfl, h1, h2.trans EX.out.symm, h3, h5⟩
            · have g1 : decide ((z : Int) ≤ (l.size : Int)) = false := decide_eq_false (by omega)
              have g1x : ((z : Int) ≤ (l.size : Int)) = False := eq_false (by omega)
              have g1y : (z ≤ l.size) = False := eq_false (by omega)
              by_cases q2 : l.size ≤ f
              · have g2 : decide ((l.size : Int) ≤ (f : Int)) = true := decide_eq_true (by omega)
                have g2x : ((l.size : Int) ≤ (f : Int)) = True := eq_true (by omega)
                have g2y : (l.size ≤ f) = True := eq_true (by omega)
                obtain ⟨fp, hfp⟩ : ∃ p, f - l.size = p := ⟨_, rfl⟩
                obtain ⟨zp, hzp⟩ : ∃ p, z - l.size = p := ⟨_, rfl⟩
                have i1 : (f : Int) - (l.size : Int) = (fp : Int) := by omega
                have i2 : (z : Int) - (l.size : Int) = (zp : Int) := by omega
                have IHR := Aside0.mk (ihr br okr sr fp zp w hr (by omega))
                have B1 : fp ≤ 100000 := by omega
                have B2 : zp ≤ 100000 := by omega
                have EX := Aside0.mk (ext_right l.text r.text (p := f) (q := z) (by rw [T.text_size]; exact q2))
                have i1w := wrapN fp B1
                have i1v := wrapM fp B1
                have i2w := wrapN zp B2
                have i2v := wrapM zp B2
                replace hfp := Aside0.mk hfp
                replace hzp := Aside0.mk hzp
                have TS := Aside0.mk (T.text_size l)
                clear hk hkl hl hr h0 ih ihl ihr okl okr szn sl sr ok hs hz q1
                go_enter Try.func30, Try.ntmps30
                go_wp2_with (go_at_call 30; refine IHR.out.mono ?_; rintro e w' ⟨v, o, rfl, h1, h2, h3, h5⟩)
                go_wp2
                go_ret
                exact ⟨v, o, rfl, h1, by rw [h2, T.text, EX.out, TS.out, hfp.out, hzp.out], h3, h5⟩
              · have g2 : decide ((l.size : Int) ≤ (f : Int)) = false := decide_eq_false (by omega)
                have g2x : ((l.size : Int) ≤ (f : Int)) = False := eq_false (by omega)
                have g2y : (l.size ≤ f) = False := eq_false (by omega)
                obtain ⟨zp, hzp⟩ : ∃ p, z - l.size = p := ⟨_, rfl⟩
                have i2 : (z : Int) - (l.size : Int) = (zp : Int) := by omega
                have IHL := Aside0.mk (ihl bl okl sl)
                have IHR := Aside0.mk (ihr br okr sr)
                have HL := Aside0.mk hl
                have HR := Aside0.mk hr
                have H0 := Aside0.mk h0
                have HZ : Aside0 (zp ≤ r.size) := Aside0.mk (by omega)
                replace hzp := Aside0.mk hzp
                have HS : Aside0 (l.size + r.size ≤ 100000) := Aside0.mk (by omega)
                have EX := Aside0.mk (ext_mid l.text r.text (p := f) (q := z) (by rw [T.text_size]; omega) (by rw [T.text_size]; omega))
                have TS := Aside0.mk (T.text_size l)
                have B2 : zp ≤ 100000 := by have := HZ.out; omega
                have i2w := wrapN zp B2
                have i2v := wrapM zp B2
                clear hk hkl hl hr h0 ih ihl ihr okl okr szn sl sr ok hs hz q1 q2
                go_enter Try.func30, Try.ntmps30
                go_wp2_with (fail)
                refine start_ (n := 17) (S := fun w' => w'.cell? ⟨k, 1, none⟩ = some (.pointer (some ⟨bl, 0, none⟩)) ∧ w'.cell? ⟨k, 2, none⟩ = some (.pointer (some ⟨br, 0, none⟩))) (ds := []) #[false, false, false, false, false, false, false, false, false, false, false, false, false, false, false, false, false] (by kernel_rfl) rfl rfl ⟨cellN (below_drew (Below.refl _ w)) H0.out 1 rfl, cellN (below_drew (Below.refl _ w)) H0.out 2 rfl⟩ (fun hHeld => ?_)
                refine with_tab (T := rtab .any (opsOf Try.f30 12)) rfl (fun HT_ => ?_)
                refine pure_ (i := 0) (N := some 66) (v := ?_) (a' := ?_) #[true, false, false, false, false, false, false, false, false, false, false, false, false, false, false, false, false] rfl rfl (any_of HT_.out (by kernel_rfl)) (fun _ _ _ h => h) (Or.inl ⟨by rfl, ?_⟩) ?_ ?_
                rotate_left
                · intro w'
                  go_simp
                  with_reducible rfl
                rotate_left
                · simp only [Act.put, List.setIfInBounds_toArray, List.set_cons_zero, List.set_cons_succ, i64_w, i32_w]
                  rfl
                refine pure_ (i := 1) (N := some 67) (v := ?_) (a' := ?_) #[true, true, false, false, false, false, false, false, false, false, false, false, false, false, false, false, false] rfl rfl (any_of HT_.out (by kernel_rfl)) (fun _ _ _ h => h) (Or.inl ⟨by rfl, ?_⟩) ?_ ?_
                rotate_left
                · intro w'
                  go_simp
                  with_reducible rfl
                rotate_left
                · simp only [Act.put, List.setIfInBounds_toArray, List.set_cons_zero, List.set_cons_succ, i64_w, i32_w]
                  rfl
                refine pure_ (i := 2) (N := some 68) (v := ?_) (a' := ?_) #[true, true, true, false, false, false, false, false, false, false, false, false, false, false, false, false, false] rfl rfl (any_of HT_.out (by kernel_rfl)) (fun _ _ _ h => h) (Or.inl ⟨by rfl, ?_⟩) ?_ ?_
                rotate_left
                · intro w'
                  go_simp
                  with_reducible rfl
                rotate_left
                · simp only [Act.put, List.setIfInBounds_toArray, List.set_cons_zero, List.set_cons_succ, i64_w, i32_w]
                  rfl
                refine take_ (i := 3) (N := some 69) (v := ?_) (a' := ?_) #[true, true, true, true, false, false, false, false, false, false, false, false, false, false, false, false, false] rfl rfl (take_of HT_.out (by kernel_rfl)) (fun _ _ _ h => h) (Or.inl ⟨by rfl, ?_⟩) hHeld ?_ ?_
                rotate_left
                · rintro w' ⟨s0, s1⟩
                  go_simp
                  with_reducible rfl
                rotate_left
                · simp only [Act.put, List.setIfInBounds_toArray, List.set_cons_zero, List.set_cons_succ, i64_w, i32_w]
                  rfl
                refine pure_ (i := 4) (N := some 70) (v := ?_) (a' := ?_) #[true, true, true, true, true, false, false, false, false, false, false, false, false, false, false, false, false] rfl rfl (any_of HT_.out (by kernel_rfl)) (fun _ _ _ h => h) (Or.inl ⟨by rfl, ?_⟩) ?_ ?_
                rotate_left
                · intro w'
                  go_simp
                  with_reducible rfl
                rotate_left
                · simp only [Act.put, List.setIfInBounds_toArray, List.set_cons_zero, List.set_cons_succ, i64_w, i32_w]
                  rfl
                refine pure_ (i := 5) (N := some 71) (v := ?_) (a' := ?_) #[true, true, true, true, true, true, false, false, false, false, false, false, false, false, false, false, false] rfl rfl (any_of HT_.out (by kernel_rfl)) (fun _ _ _ h => h) (Or.inl ⟨by rfl, ?_⟩) ?_ ?_
                rotate_left
                · intro w'
                  go_simp
                  with_reducible rfl
                rotate_left
                · simp only [Act.put, List.setIfInBounds_toArray, List.set_cons_zero, List.set_cons_succ, i64_w, i32_w]
                  rfl
                refine pure_ (i := 7) (N := some 73) (v := ?_) (a' := ?_) #[true, true, true, true, true, true, false, true, false, false, false, false, false, false, false, false, false] rfl rfl (any_of HT_.out (by kernel_rfl)) (fun _ _ _ h => h) (Or.inl ⟨by rfl, ?_⟩) ?_ ?_
                rotate_left
                · intro w'
                  go_simp
                  with_reducible rfl
                rotate_left
                · simp only [Act.put, List.setIfInBounds_toArray, List.set_cons_zero, List.set_cons_succ, i64_w, i32_w]
                  rfl
                refine pure_ (i := 8) (N := some 74) (v := ?_) (a' := ?_) #[true, true, true, true, true, true, false, true, true, false, false, false, false, false, false, false, false] rfl rfl (any_of HT_.out (by kernel_rfl)) (fun _ _ _ h => h) (Or.inl ⟨by rfl, ?_⟩) ?_ ?_
                rotate_left
                · intro w'
                  go_simp
                  with_reducible rfl
                rotate_left
                · simp only [Act.put, List.setIfInBounds_toArray, List.set_cons_zero, List.set_cons_succ, i64_w, i32_w]
                  rfl
                refine pure_ (i := 9) (N := some 75) (v := ?_) (a' := ?_) #[true, true, true, true, true, true, false, true, true, true, false, false, false, false, false, false, false] rfl rfl (any_of HT_.out (by kernel_rfl)) (fun _ _ _ h => h) (Or.inl ⟨by rfl, ?_⟩) ?_ ?_
                rotate_left
                · intro w'
                  go_simp
                  with_reducible rfl
                rotate_left
                · simp only [Act.put, List.setIfInBounds_toArray, List.set_cons_zero, List.set_cons_succ, i64_w, i32_w]
                  rfl
                refine take_ (i := 10) (N := some 76) (v := ?_) (a' := ?_) #[true, true, true, true, true, true, false, true, true, true, true, false, false, false, false, false, false] rfl rfl (take_of HT_.out (by kernel_rfl)) (fun _ _ _ h => h) (Or.inl ⟨by rfl, ?_⟩) hHeld ?_ ?_
                rotate_left
                · rintro w' ⟨s0, s1⟩
                  go_simp
                  with_reducible rfl
                rotate_left
                · simp only [Act.put, List.setIfInBounds_toArray, List.set_cons_zero, List.set_cons_succ, i64_w, i32_w]
                  rfl
                refine pure_ (i := 11) (N := some 77) (v := ?_) (a' := ?_) #[true, true, true, true, true, true, false, true, true, true, true, true, false, false, false, false, false] rfl rfl (any_of HT_.out (by kernel_rfl)) (fun _ _ _ h => h) (Or.inl ⟨by rfl, ?_⟩) ?_ ?_
                rotate_left
                · intro w'
                  go_simp
                  with_reducible rfl
                rotate_left
                · simp only [Act.put, List.setIfInBounds_toArray, List.set_cons_zero, List.set_cons_succ, i64_w, i32_w]
                  rfl
                refine pure_ (i := 12) (N := some 78) (v := ?_) (a' := ?_) #[true, true, true, true, true, true, false, true, true, true, true, true, true, false, false, false, false] rfl rfl (any_of HT_.out (by kernel_rfl)) (fun _ _ _ h => h) (Or.inl ⟨by rfl, ?_⟩) ?_ ?_
                rotate_left
                · intro w'
                  go_simp
                  with_reducible rfl
                rotate_left
                · simp only [Act.put, List.setIfInBounds_toArray, List.set_cons_zero, List.set_cons_succ, i64_w, i32_w]
                  rfl
                refine pure_ (i := 13) (N := some 79) (v := ?_) (a' := ?_) #[true, true, true, true, true, true, false, true, true, true, true, true, true, true, false, false, false] rfl rfl (any_of HT_.out (by kernel_rfl)) (fun _ _ _ h => h) (Or.inl ⟨by rfl, ?_⟩) ?_ ?_
                rotate_left
                · intro w'
                  go_simp
                  with_reducible rfl
                rotate_left
                · simp only [Act.put, List.setIfInBounds_toArray, List.set_cons_zero, List.set_cons_succ, i64_w, i32_w]
                  rfl
                refine one_ (i := 6) (N := some 72) #[true, true, true, true, true, true, true, true, true, true, true, true, true, true, false, false, false] rfl rfl (one_of HT_.out (by kernel_rfl)) (by decide) (fun K hK => ?_)
                refine goes_ Try.func30 (by kernel_rfl) rfl #[.pointer (some ⟨bl, 0, none⟩), .int .i64 f, .int .i64 l.size] (by rfl) rfl rfl (by (try simp only [List.map_toArray, List.map_cons, List.map_nil]); first | done | rfl) ?_
                refine (IHL.out f l.size _ (keepN HL.out (below_drew (Below.refl _ w))) (Nat.le_refl _)).mono ?_
                rintro e w1 ⟨v1, o1, rfl, a1, t1, k1, b1⟩
                have hb1 : Aside0 (Below w.heap.size w w1) := Aside0.mk ((below_drew (Below.refl _ w)).trans b1)
                refine ⟨_, rfl, ?_⟩
                refine hK.out _ _ ⟨cellN (hb1.out) H0.out 1 rfl, cellN (hb1.out) H0.out 2 rfl⟩ (fun hHeld => ?_)
                clear hK K
                refine norm_ (a' := ?_) ?_ ?_
                rotate_left
                · show Act.put _ (some 72) _ = _
                  simp only [Act.put, List.setIfInBounds_toArray, List.set_cons_zero, List.set_cons_succ, i64_w, i32_w]
                  rfl
                refine one_ (i := 14) (N := some 80) #[true, true, true, true, true, true, true, true, true, true, true, true, true, true, true, false, false] rfl rfl (one_of HT_.out (by kernel_rfl)) (by decide) (fun K hK => ?_)
                refine goes_ Try.func30 (by kernel_rfl) rfl #[.pointer (some ⟨br, 0, none⟩), .int .i64 0, .int .i64 zp] (by rfl) rfl rfl (by (try simp only [List.map_toArray, List.map_cons, List.map_nil]); first | done | rfl) ?_
                refine (IHR.out 0 zp _ (keepN HR.out hb1.out) (HZ.out)).mono ?_
                rintro e w2 ⟨v2, o2, rfl, a2, t2, k2, b2⟩
                have hb2 : Aside0 (Below w.heap.size w w2) := Aside0.mk (hb1.out.trans (b2.mono hb1.out.size))
                refine ⟨_, rfl, ?_⟩
                refine hK.out _ _ ⟨cellN (hb2.out) H0.out 1 rfl, cellN (hb2.out) H0.out 2 rfl⟩ (fun hHeld => ?_)
                clear hK K
                refine norm_ (a' := ?_) ?_ ?_
                rotate_left
                · show Act.put _ (some 80) _ = _
                  simp only [Act.put, List.setIfInBounds_toArray, List.set_cons_zero, List.set_cons_succ, i64_w, i32_w]
                  rfl
                refine one_ (i := 15) (N := some 81) #[true, true, true, true, true, true, true, true, true, true, true, true, true, true, true, true, false] rfl rfl (one_of HT_.out (by kernel_rfl)) (by decide) (fun K hK => ?_)
                refine goes_ Try.func29 (by kernel_rfl) rfl #[v1, v2] (by rfl) rfl rfl (by (try simp only [List.map_toArray, List.map_cons, List.map_nil]); first | done | rfl) ?_
                refine (join_ok o1 o2 v1 v2 w2 (a1.below b2) k1 a2 k2 (by have e1 := txt_size o1; have e2 := txt_size o2; rw [t1, ByteArray.size_extract, l.text_size] at e1; rw [t2, ByteArray.size_extract, r.text_size] at e2; have := HS.out; omega)).mono ?_
                rintro e w3 ⟨v3, o3, rfl, a3, t3, k3, b3⟩
                have hb3 : Aside0 (Below w.heap.size w w3) := Aside0.mk (hb2.out.trans (b3.mono hb2.out.size))
                refine ⟨_, rfl, ?_⟩
                refine hK.out _ _ ⟨cellN (hb3.out) H0.out 1 rfl, cellN (hb3.out) H0.out 2 rfl⟩ (fun hHeld => ?_)
                clear hK K
                refine norm_ (a' := ?_) ?_ ?_
                rotate_left
                · show Act.put _ (some 81) _ = _
                  simp only [Act.put, List.setIfInBounds_toArray, List.set_cons_zero, List.set_cons_succ, i64_w, i32_w]
                  rfl
                refine pure_ (i := 16) (N := some 6) (v := ?_) (a' := ?_) #[true, true, true, true, true, true, true, true, true, true, true, true, true, true, true, true, true] rfl rfl (any_of HT_.out (by kernel_rfl)) (fun _ _ _ h => h) (Or.inl ⟨by rfl, ?_⟩) ?_ ?_
                rotate_left
                · intro w'
                  go_simp
                  with_reducible rfl
                rotate_left
                · simp only [Act.put, List.setIfInBounds_toArray, List.set_cons_zero, List.set_cons_succ, i64_w, i32_w]
                  rfl
                refine done_ (done_of HT_.out (by kernel_rfl)) ?_
                try go_wp2
                go_ret
                exact ⟨v3, o3, rfl, a3, by rw [t3, t1, t2, T.text, EX.out, TS.out, hzp.out], k3, hb3.out⟩
          
        · have e0 : ((f : Int) == 0) = false := beq_eq_false_iff_ne.2 (by omega)
          have e0x : (f == 0) = false := beq_eq_false_iff_ne.2 f0
          have e0y : decide (f = 0) = false := decide_eq_false f0
          replace f0 := Aside0.mk f0
          have c3 : w.cell? ⟨k, 3, none⟩ = some (.int .i64 t.size) := by rw [Lib.cell_of_heap hk]; rfl
          cases t with
          | leaf s =>
            have c0 : w.cell? ⟨k, 0, none⟩ = some (.string s) := by rw [Lib.cell_of_heap ht]; rfl
            have c4 : w.cell? ⟨k, 1, none⟩ = some (.pointer none) := by rw [Lib.cell_of_heap ht]; rfl
            have m0 : (0 ≤ (f : Int)) = True := eq_true (by omega)
            have m1 : ((f : Int) ≤ (z : Int)) = True := eq_true (by omega)
            have m1x : (f ≤ z) = True := eq_true (by omega)
            have zz : z ≤ s.size := hz
            have m2 : ((z : Int) ≤ (s.size : Int)) = True := eq_true (by omega)
            have m2x : (z ≤ s.size) = True := eq_true (by omega)
            have ls : (s.extract f z).size ≤ 64 := by cases ok with | leaf q1 q2 => rw [ByteArray.size_extract]; omega
            have LS := Aside0.mk ls
            clear hk ht ls hz zz
            go_enter Try.func30, Try.ntmps30
            go_wp2_with (go_at_call 34; refine (leaf_any (s.extract f z) LS.out w).mono ?_; rintro e w' ⟨v, o, rfl, h1, h2, h3, h4, h5⟩)
            go_ret
            exact ⟨v, o, rfl, h1, h2, h3, h5⟩
          | node l r =>
            obtain ⟨bl, br, h0, hl, hr⟩ := ht
            obtain ⟨ihl, ihr⟩ := ih l r rfl
            obtain ⟨okl, okr⟩ : OK l ∧ OK r := by cases ok with | node a b _ _ => exact ⟨a, b⟩
            have szn : (T.node l r).size = l.size + r.size := rfl
            have sl : l.size ≤ 100000 := by omega
            have sr : r.size ≤ 100000 := by omega
            have c4 : w.cell? ⟨k, 1, none⟩ = some (.pointer (some ⟨bl, 0, none⟩)) := by rw [Lib.cell_of_heap h0]; rfl
            have c5 : w.cell? ⟨k, 2, none⟩ = some (.pointer (some ⟨br, 0, none⟩)) := by rw [Lib.cell_of_heap h0]; rfl
            obtain ⟨ul, ur, hkl⟩ := hl.blk
            have c6 : w.cell? ⟨bl, 3, none⟩ = some (.int .i64 l.size) := by rw [Lib.cell_of_heap hkl]; rfl
            by_cases q1 : z ≤ l.size
            · have g1 : decide ((z : Int) ≤ (l.size : Int)) = true := decide_eq_true (by omega)
              have g1x : ((z : Int) ≤ (l.size : Int)) = True := eq_true (by omega)
              have g1y : (z ≤ l.size) = True := eq_true (by omega)
              have IHL := Aside0.mk (ihl bl okl sl f z w hl q1)
              have EX := Aside0.mk (ext_left l.text r.text (p := f) (q := z) (by rw [T.text_size]; exact q1))
              clear hk hkl hl hr h0 ih ihl ihr okl okr szn sl sr ok hs hz q1
              go_enter Try.func30, Try.ntmps30
              go_wp2_with (go_at_call 30; refine IHL.out.mono ?_; rintro e w' ⟨v, o, rfl, h1, h2, h3, h5⟩)
              go_wp2
              go_ret
              exact ⟨v, o, rfl, h1, h2.trans EX.out.symm, h3, h5⟩
            · have g1 : decide ((z : Int) ≤ (l.size : Int)) = false := decide_eq_false (by omega)
              have g1x : ((z : Int) ≤ (l.size : Int)) = False := eq_false (by omega)
              have g1y : (z ≤ l.size) = False := eq_false (by omega)
              by_cases q2 : l.size ≤ f
              · have g2 : decide ((l.size : Int) ≤ (f : Int)) = true := decide_eq_true (by omega)
                have g2x : ((l.size : Int) ≤ (f : Int)) = True := eq_true (by omega)
                have g2y : (l.size ≤ f) = True := eq_true (by omega)
                obtain ⟨fp, hfp⟩ : ∃ p, f - l.size = p := ⟨_, rfl⟩
                obtain ⟨zp, hzp⟩ : ∃ p, z - l.size = p := ⟨_, rfl⟩
                have i1 : (f : Int) - (l.size : Int) = (fp : Int) := by omega
                have i2 : (z : Int) - (l.size : Int) = (zp : Int) := by omega
                have IHR := Aside0.mk (ihr br okr sr fp zp w hr (by omega))
                have B1 : fp ≤ 100000 := by omega
                have B2 : zp ≤ 100000 := by omega
                have EX := Aside0.mk (ext_right l.text r.text (p := f) (q := z) (by rw [T.text_size]; exact q2))
                have i1w := wrapN fp B1
                have i1v := wrapM fp B1
                have i2w := wrapN zp B2
                have i2v := wrapM zp B2
                replace hfp := Aside0.mk hfp
                replace hzp := Aside0.mk hzp
                have TS := Aside0.mk (T.text_size l)
                clear hk hkl hl hr h0 ih ihl ihr okl okr szn sl sr ok hs hz q1
                go_enter Try.func30, Try.ntmps30
                go_wp2_with (go_at_call 30; refine IHR.out.mono ?_; rintro e w' ⟨v, o, rfl, h1, h2, h3, h5⟩)
                go_wp2
                go_ret
                exact ⟨v, o, rfl, h1, by rw [h2, T.text, EX.out, TS.out, hfp.out, hzp.out], h3, h5⟩
              · have g2 : decide ((l.size : Int) ≤ (f : Int)) = false := decide_eq_false (by omega)
                have g2x : ((l.size : Int) ≤ (f : Int)) = False := eq_false (by omega)
                have g2y : (l.size ≤ f) = False := eq_false (by omega)
                obtain ⟨zp, hzp⟩ : ∃ p, z - l.size = p := ⟨_, rfl⟩
                have i2 : (z : Int) - (l.size : Int) = (zp : Int) := by omega
                have IHL := Aside0.mk (ihl bl okl sl)
                have IHR := Aside0.mk (ihr br okr sr)
                have HL := Aside0.mk hl
                have HR := Aside0.mk hr
                have H0 := Aside0.mk h0
                have HZ : Aside0 (zp ≤ r.size) := Aside0.mk (by omega)
                replace hzp := Aside0.mk hzp
                have HS : Aside0 (l.size + r.size ≤ 100000) := Aside0.mk (by omega)
                have EX := Aside0.mk (ext_mid l.text r.text (p := f) (q := z) (by rw [T.text_size]; omega) (by rw [T.text_size]; omega))
                have TS := Aside0.mk (T.text_size l)
                have B2 : zp ≤ 100000 := by have := HZ.out; omega
                have i2w := wrapN zp B2
                have i2v := wrapM zp B2
                clear hk hkl hl hr h0 ih ihl ihr okl okr szn sl sr ok hs hz q1 q2
                go_enter Try.func30, Try.ntmps30
                go_wp2_with (fail)
                refine start_ (n := 17) (S := fun w' => w'.cell? ⟨k, 1, none⟩ = some (.pointer (some ⟨bl, 0, none⟩)) ∧ w'.cell? ⟨k, 2, none⟩ = some (.pointer (some ⟨br, 0, none⟩))) (ds := []) #[false, false, false, false, false, false, false, false, false, false, false, false, false, false, false, false, false] (by kernel_rfl) rfl rfl ⟨cellN (below_drew (Below.refl _ w)) H0.out 1 rfl, cellN (below_drew (Below.refl _ w)) H0.out 2 rfl⟩ (fun hHeld => ?_)
                refine with_tab (T := rtab .any (opsOf Try.f30 12)) rfl (fun HT_ => ?_)
                refine pure_ (i := 0) (N := some 66) (v := ?_) (a' := ?_) #[true, false, false, false, false, false, false, false, false, false, false, false, false, false, false, false, false] rfl rfl (any_of HT_.out (by kernel_rfl)) (fun _ _ _ h => h) (Or.inl ⟨by rfl, ?_⟩) ?_ ?_
                rotate_left
                · intro w'
                  go_simp
                  with_reducible rfl
                rotate_left
                · simp only [Act.put, List.setIfInBounds_toArray, List.set_cons_zero, List.set_cons_succ, i64_w, i32_w]
                  rfl
                refine pure_ (i := 1) (N := some 67) (v := ?_) (a' := ?_) #[true, true, false, false, false, false, false, false, false, false, false, false, false, false, false, false, false] rfl rfl (any_of HT_.out (by kernel_rfl)) (fun _ _ _ h => h) (Or.inl ⟨by rfl, ?_⟩) ?_ ?_
                rotate_left
                · intro w'
                  go_simp
                  with_reducible rfl
                rotate_left
                · simp only [Act.put, List.setIfInBounds_toArray, List.set_cons_zero, List.set_cons_succ, i64_w, i32_w]
                  rfl
                refine pure_ (i := 2) (N := some 68) (v := ?_) (a' := ?_) #[true, true, true, false, false, false, false, false, false, false, false, false, false, false, false, false, false] rfl rfl (any_of HT_.out (by kernel_rfl)) (fun _ _ _ h => h) (Or.inl ⟨by rfl, ?_⟩) ?_ ?_
                rotate_left
                · intro w'
                  go_simp
                  with_reducible rfl
                rotate_left
                · simp only [Act.put, List.setIfInBounds_toArray, List.set_cons_zero, List.set_cons_succ, i64_w, i32_w]
                  rfl
                refine take_ (i := 3) (N := some 69) (v := ?_) (a' := ?_) #[true, true, true, true, false, false, false, false, false, false, false, false, false, false, false, false, false] rfl rfl (take_of HT_.out (by kernel_rfl)) (fun _ _ _ h => h) (Or.inl ⟨by rfl, ?_⟩) hHeld ?_ ?_
                rotate_left
                · rintro w' ⟨s0, s1⟩
                  go_simp
                  with_reducible rfl
                rotate_left
                · simp only [Act.put, List.setIfInBounds_toArray, List.set_cons_zero, List.set_cons_succ, i64_w, i32_w]
                  rfl
                refine pure_ (i := 4) (N := some 70) (v := ?_) (a' := ?_) #[true, true, true, true, true, false, false, false, false, false, false, false, false, false, false, false, false] rfl rfl (any_of HT_.out (by kernel_rfl)) (fun _ _ _ h => h) (Or.inl ⟨by rfl, ?_⟩) ?_ ?_
                rotate_left
                · intro w'
                  go_simp
                  with_reducible rfl
                rotate_left
                · simp only [Act.put, List.setIfInBounds_toArray, List.set_cons_zero, List.set_cons_succ, i64_w, i32_w]
                  rfl
                refine pure_ (i := 5) (N := some 71) (v := ?_) (a' := ?_) #[true, true, true, true, true, true, false, false, false, false, false, false, false, false, false, false, false] rfl rfl (any_of HT_.out (by kernel_rfl)) (fun _ _ _ h => h) (Or.inl ⟨by rfl, ?_⟩) ?_ ?_
                rotate_left
                · intro w'
                  go_simp
                  with_reducible rfl
                rotate_left
                · simp only [Act.put, List.setIfInBounds_toArray, List.set_cons_zero, List.set_cons_succ, i64_w, i32_w]
                  rfl
                refine pure_ (i := 7) (N := some 73) (v := ?_) (a' := ?_) #[true, true, true, true, true, true, false, true, false, false, false, false, false, false, false, false, false] rfl rfl (any_of HT_.out (by kernel_rfl)) (fun _ _ _ h => h) (Or.inl ⟨by rfl, ?_⟩) ?_ ?_
                rotate_left
                · intro w'
                  go_simp
                  with_reducible rfl
                rotate_left
                · simp only [Act.put, List.setIfInBounds_toArray, List.set_cons_zero, List.set_cons_succ, i64_w, i32_w]
                  rfl
                refine pure_ (i := 8) (N := some 74) (v := ?_) (a' := ?_) #[true, true, true, true, true, true, false, true, true, false, false, false, false, false, false, false, false] rfl rfl (any_of HT_.out (by kernel_rfl)) (fun _ _ _ h => h) (Or.inl ⟨by rfl, ?_⟩) ?_ ?_
                rotate_left
                · intro w'
                  go_simp
                  with_reducible rfl
                rotate_left
                · simp only [Act.put, List.setIfInBounds_toArray, List.set_cons_zero, List.set_cons_succ, i64_w, i32_w]
                  rfl
                refine pure_ (i := 9) (N := some 75) (v := ?_) (a' := ?_) #[true, true, true, true, true, true, false, true, true, true, false, false, false, false, false, false, false] rfl rfl (any_of HT_.out (by kernel_rfl)) (fun _ _ _ h => h) (Or.inl ⟨by rfl, ?_⟩) ?_ ?_
                rotate_left
                · intro w'
                  go_simp
                  with_reducible rfl
                rotate_left
                · simp only [Act.put, List.setIfInBounds_toArray, List.set_cons_zero, List.set_cons_succ, i64_w, i32_w]
                  rfl
                refine take_ (i := 10) (N := some 76) (v := ?_) (a' := ?_) #[true, true, true, true, true, true, false, true, true, true, true, false, false, false, false, false, false] rfl rfl (take_of HT_.out (by kernel_rfl)) (fun _ _ _ h => h) (Or.inl ⟨by rfl, ?_⟩) hHeld ?_ ?_
                rotate_left
                · rintro w' ⟨s0, s1⟩
                  go_simp
                  with_reducible rfl
                rotate_left
                · simp only [Act.put, List.setIfInBounds_toArray, List.set_cons_zero, List.set_cons_succ, i64_w, i32_w]
                  rfl
                refine pure_ (i := 11) (N := some 77) (v := ?_) (a' := ?_) #[true, true, true, true, true, true, false, true, true, true, true, true, false, false, false, false, false] rfl rfl (any_of HT_.out (by kernel_rfl)) (fun _ _ _ h => h) (Or.inl ⟨by rfl, ?_⟩) ?_ ?_
                rotate_left
                · intro w'
                  go_simp
                  with_reducible rfl
                rotate_left
                · simp only [Act.put, List.setIfInBounds_toArray, List.set_cons_zero, List.set_cons_succ, i64_w, i32_w]
                  rfl
                refine pure_ (i := 12) (N := some 78) (v := ?_) (a' := ?_) #[true, true, true, true, true, true, false, true, true, true, true, true, true, false, false, false, false] rfl rfl (any_of HT_.out (by kernel_rfl)) (fun _ _ _ h => h) (Or.inl ⟨by rfl, ?_⟩) ?_ ?_
                rotate_left
                · intro w'
                  go_simp
                  with_reducible rfl
                rotate_left
                · simp only [Act.put, List.setIfInBounds_toArray, List.set_cons_zero, List.set_cons_succ, i64_w, i32_w]
                  rfl
                refine pure_ (i := 13) (N := some 79) (v := ?_) (a' := ?_) #[true, true, true, true, true, true, false, true, true, true, true, true, true, true, false, false, false] rfl rfl (any_of HT_.out (by kernel_rfl)) (fun _ _ _ h => h) (Or.inl ⟨by rfl, ?_⟩) ?_ ?_
                rotate_left
                · intro w'
                  go_simp
                  with_reducible rfl
                rotate_left
                · simp only [Act.put, List.setIfInBounds_toArray, List.set_cons_zero, List.set_cons_succ, i64_w, i32_w]
                  rfl
                refine one_ (i := 6) (N := some 72) #[true, true, true, true, true, true, true, true, true, true, true, true, true, true, false, false, false] rfl rfl (one_of HT_.out (by kernel_rfl)) (by decide) (fun K hK => ?_)
                refine goes_ Try.func30 (by kernel_rfl) rfl #[.pointer (some ⟨bl, 0, none⟩), .int .i64 f, .int .i64 l.size] (by rfl) rfl rfl (by (try simp only [List.map_toArray, List.map_cons, List.map_nil]); first | done | rfl) ?_
                refine (IHL.out f l.size _ (keepN HL.out (below_drew (Below.refl _ w))) (Nat.le_refl _)).mono ?_
                rintro e w1 ⟨v1, o1, rfl, a1, t1, k1, b1⟩
                have hb1 : Aside0 (Below w.heap.size w w1) := Aside0.mk ((below_drew (Below.refl _ w)).trans b1)
                refine ⟨_, rfl, ?_⟩
                refine hK.out _ _ ⟨cellN (hb1.out) H0.out 1 rfl, cellN (hb1.out) H0.out 2 rfl⟩ (fun hHeld => ?_)
                clear hK K
                refine norm_ (a' := ?_) ?_ ?_
                rotate_left
                · show Act.put _ (some 72) _ = _
                  simp only [Act.put, List.setIfInBounds_toArray, List.set_cons_zero, List.set_cons_succ, i64_w, i32_w]
                  rfl
                refine one_ (i := 14) (N := some 80) #[true, true, true, true, true, true, true, true, true, true, true, true, true, true, true, false, false] rfl rfl (one_of HT_.out (by kernel_rfl)) (by decide) (fun K hK => ?_)
                refine goes_ Try.func30 (by kernel_rfl) rfl #[.pointer (some ⟨br, 0, none⟩), .int .i64 0, .int .i64 zp] (by rfl) rfl rfl (by (try simp only [List.map_toArray, List.map_cons, List.map_nil]); first | done | rfl) ?_
                refine (IHR.out 0 zp _ (keepN HR.out hb1.out) (HZ.out)).mono ?_
                rintro e w2 ⟨v2, o2, rfl, a2, t2, k2, b2⟩
                have hb2 : Aside0 (Below w.heap.size w w2) := Aside0.mk (hb1.out.trans (b2.mono hb1.out.size))
                refine ⟨_, rfl, ?_⟩
                refine hK.out _ _ ⟨cellN (hb2.out) H0.out 1 rfl, cellN (hb2.out) H0.out 2 rfl⟩ (fun hHeld => ?_)
                clear hK K
                refine norm_ (a' := ?_) ?_ ?_
                rotate_left
                · show Act.put _ (some 80) _ = _
                  simp only [Act.put, List.setIfInBounds_toArray, List.set_cons_zero, List.set_cons_succ, i64_w, i32_w]
                  rfl
                refine one_ (i := 15) (N := some 81) #[true, true, true, true, true, true, true, true, true, true, true, true, true, true, true, true, false] rfl rfl (one_of HT_.out (by kernel_rfl)) (by decide) (fun K hK => ?_)
                refine goes_ Try.func29 (by kernel_rfl) rfl #[v1, v2] (by rfl) rfl rfl (by (try simp only [List.map_toArray, List.map_cons, List.map_nil]); first | done | rfl) ?_
                refine (join_ok o1 o2 v1 v2 w2 (a1.below b2) k1 a2 k2 (by have e1 := txt_size o1; have e2 := txt_size o2; rw [t1, ByteArray.size_extract, l.text_size] at e1; rw [t2, ByteArray.size_extract, r.text_size] at e2; have := HS.out; omega)).mono ?_
                rintro e w3 ⟨v3, o3, rfl, a3, t3, k3, b3⟩
                have hb3 : Aside0 (Below w.heap.size w w3) := Aside0.mk (hb2.out.trans (b3.mono hb2.out.size))
                refine ⟨_, rfl, ?_⟩
                refine hK.out _ _ ⟨cellN (hb3.out) H0.out 1 rfl, cellN (hb3.out) H0.out 2 rfl⟩ (fun hHeld => ?_)
                clear hK K
                refine norm_ (a' := ?_) ?_ ?_
                rotate_left
                · show Act.put _ (some 81) _ = _
                  simp only [Act.put, List.setIfInBounds_toArray, List.set_cons_zero, List.set_cons_succ, i64_w, i32_w]
                  rfl
                refine pure_ (i := 16) (N := some 6) (v := ?_) (a' := ?_) #[true, true, true, true, true, true, true, true, true, true, true, true, true, true, true, true, true] rfl rfl (any_of HT_.out (by kernel_rfl)) (fun _ _ _ h => h) (Or.inl ⟨by rfl, ?_⟩) ?_ ?_
                rotate_left
                · intro w'
                  go_simp
                  with_reducible rfl
                rotate_left
                · simp only [Act.put, List.setIfInBounds_toArray, List.set_cons_zero, List.set_cons_succ, i64_w, i32_w]
                  rfl
                refine done_ (done_of HT_.out (by kernel_rfl)) ?_
                try go_wp2
                go_ret
                exact ⟨v3, o3, rfl, a3, by rw [t3, t1, t2, T.text, EX.out, TS.out, hzp.out], k3, hb3.out⟩
          

theorem slice_any (t : T) : SliceOk t := by
  induction t with
  | leaf s => exact slice_step _ (fun l r e => by cases e)
  | node l r ihl ihr => exact slice_step _ (fun a b e => by cases e; exact ⟨ihl, ihr⟩)
end Go.Proofs.Ytmoceagbmgoijaa.Rop
