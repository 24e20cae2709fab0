/- A law of the rope: its call answers true, for all arguments. -/
import Derived.Test.YtmoceagbmgoijaaLox
import Derived.KernelRfl
namespace Go.Proofs.Ytmoceagbmgoijaa.Rop
open Go.RowKit Go.Proofs.YtmoceagbmgoijaaW.PrintWords Go.Proofs.YtmoceagbmgoijaaW.PrintLast Go.Proofs.YtmoceagbmgoijaaW.PrintMore Go.Proofs.Ytmoceagbmgoijaa.Tre Go.Proofs.Ytmoceagbmgoijaa.PA
attribute [local go_sem] max2_int min2_int max_two min_two max_three min_three max_four min_four
set_option linter.unusedVariables false
set_option linter.unusedSimpArgs false

/-- the rope variable of the loop, from the door on -/
structure Gx (w : World) (rb : Nat) (p : Option Addr) (o : Option T) (x : World) : Prop where
  b : Below w.heap.size w x
  c : Cel x rb p o
  g : w.heap.size ≤ rb
theorem Gx.below {w x x' : World} {b : Nat} {p : Option Addr} {o : Option T} (h : Gx w b p o x) (hb : Below x.heap.size x x') : Gx w b p o x' := ⟨h.b.trans (hb.mono h.b.size), h.c.below hb, h.g⟩
theorem Gx.put {w x : World} {b : Nat} {p q : Option Addr} {o o' : Option T} (h : Gx w b p o x) (a : At x (.pointer q) o') : Gx w b q o' (x.setCell ⟨b, 0, none⟩ (.pointer q)) := ⟨h.b.setCell (p := ⟨b, 0, none⟩) h.g _, Cel.put h.c a, h.g⟩
set_option maxHeartbeats 16000000 in
set_option maxRecDepth 100000 in
theorem grows_law (A0 : Option Addr) (c0 : Nat) (l0 : List ByteArray) (fr : Bool) (w : World) (hr0 : Kd.C Kd.string w A0 l0.length l0) (hc0 : l0.length ≤ c0) :
    Calls Try.prog 8 #[.slice A0 l0.length c0, .bool fr] w fun e w' => e = .returned (.bool true) ∧ Below w.heap.size w w' := by
  have HR0 := Aside0.mk hr0
  clear hr0
  by_cases c : 200 < l0.length
  · have c1 : decide (200 < (l0.length : Int)) = true := decide_eq_true (by omega)
    have c1x : decide (200 < l0.length) = true := decide_eq_true c
    go_enter Try.func8, Try.ntmps8
    go_wp2_with (go_at_call 11; refine (awake_any _).mono ?_; rintro e x1 ⟨rfl, h⟩)
    go_ret
    exact ⟨rfl, h⟩
  have c1 : decide (200 < (l0.length : Int)) = false := decide_eq_false (by omega)
  have c1x : decide (200 < l0.length) = false := decide_eq_false c
  have HL : Aside0 (l0.length ≤ 200) := Aside0.mk (by omega)
  have G0 : Aside0 (Gx w w.heap.size none none (w.alloc (.cells #[.pointer none] 26))) := Aside0.mk ⟨bal _ _, Cel.new (p := none) (o := none) rfl, Nat.le_refl _⟩
  obtain ⟨rb, hrb⟩ : ∃ rb, rb = w.heap.size := ⟨_, rfl⟩
  clear c hc0
  go_enter Try.func8, Try.ntmps8
  go_wp2
  rw [← hrb] at G0 ⊢
  replace hrb := Aside0.mk hrb
  go_loopg [6, 7] l0.length (fun kq v6 v7 X => ∃ (n : Nat) (acc : ByteArray) (p : Option Addr) (o : Option T), v6 = .string acc ∧ v7 = .int .i64 n ∧ Aside0 (n ≤ l0.length ∧ l0.length - n ≤ kq ∧ acc.size ≤ 4070) ∧ Aside0 (txt o = acc ∧ Ok o) ∧ Aside0 (Gx w rb p o X))
  case atStart => exact ⟨0, ⟨#[]⟩, none, none, rfl, (by first | rfl | (simp; done)), ⟨Nat.zero_le _, Nat.le_refl _, Nat.zero_le _⟩, ⟨rfl, trivial⟩, ⟨G0.out⟩⟩
  case round =>
    obtain ⟨n, acc, p, o, rfl, rfl, ⟨q1, q2, q3⟩, OKO, PW⟩ := hrel
    by_cases hlt : n < l0.length
    · obtain ⟨ad, ead, hx⟩ := Kd.at_string (Kd.C_below HR0.out PW.out.b) n (by omega) (by omega)
      cases ead
      rw [Int.toNat_natCast] at hx
      obtain ⟨pc, hpc⟩ : ∃ pc, rdOf ByteArray.empty l0 n = pc := ⟨_, rfl⟩
      rw [hpc] at hx
      have HC : Aside0 (∀ Y, Below w.heap.size w Y → Y.cell? (ad.add n) = some (.string pc)) := Aside0.mk fun Y hY => by
        obtain ⟨ad', e', hx'⟩ := Kd.at_string (Kd.C_below HR0.out hY) n (by omega) (by omega)
        cases e'
        rw [Int.toNat_natCast, hpc] at hx'
        exact hx'
      have l1 : ((n : Int) < (l0.length : Int)) = True := eq_true (by omega)
      have l1x : (n < l0.length) = True := eq_true hlt
      have l2 : (0 ≤ (n : Int)) = True := eq_true (by omega)
      replace hpc := Aside0.mk hpc
      have Q : Aside0 (n < l0.length ∧ l0.length - n ≤ gk) := Aside0.mk ⟨hlt, q2⟩
      have PX := Aside0.mk (PW.out.below (below_drew (Below.refl _ wr)))
      by_cases b1 : 70 < pc.size
      · have b2 : decide (70 < (pc.size : Int)) = true := decide_eq_true (by omega)
        have b2x : decide (70 < pc.size) = true := decide_eq_true b1
        clear q1 q2 q3 hlt b1 PX
        go_wp2_with (go_at_call 11; refine (awake_any _).mono ?_; rintro e z1 ⟨rfl, h⟩; have PA := Aside0.mk (PW.out.below h); clear h)
        go_ret
        exact ⟨rfl, PA.out.b⟩
      have b2 : decide (70 < (pc.size : Int)) = false := decide_eq_false (by omega)
      have b2x : decide (70 < pc.size) = false := decide_eq_false (by omega)
      by_cases b4 : 4000 < acc.size
      · have b3 : decide (4000 < (acc.size : Int)) = true := decide_eq_true (by omega)
        have b3x : decide (4000 < acc.size) = true := decide_eq_true b4
        clear q1 q2 q3 hlt b1 b4 PX
        go_wp2_with (go_at_call 11; refine (awake_any _).mono ?_; rintro e z1 ⟨rfl, h⟩; have PA := Aside0.mk (PW.out.below h); clear h)
        go_ret
        exact ⟨rfl, PA.out.b⟩
      have b3 : decide (4000 < (acc.size : Int)) = false := decide_eq_false (by omega)
      have b3x : decide (4000 < acc.size) = false := decide_eq_false (by omega)
      have Z : Aside0 (pc.size ≤ 70 ∧ acc.size ≤ 4000) := Aside0.mk ⟨by omega, by omega⟩
      have s1 : (9223372036854775807 < pc.size + acc.size) = False := eq_false (by omega)
      have s2 : (9223372036854775807 < acc.size + pc.size) = False := eq_false (by omega)
      clear q1 q2 q3 hlt b1 b4
      cases fr with
      | true =>
        go_wp2_with (fail)
        refine start_ (n := 15) (S := fun w' => w'.cell? (ad.add n) = some (.string pc)) (ds := []) #[false, false, false, false, false, false, false, false, false, false, false, false, false, false, false] (by kernel_rfl) rfl rfl (HC.out _ PX.out.b) (fun hHeld => ?_)
        refine with_tab (T := rtab .any (opsOf Try.f8 11)) rfl (fun HT_ => ?_)
        generalize wr.drew = X1 at PX hHeld ⊢
        refine pure_ (i := 0) (N := some 31) (v := ?_) (a' := ?_) #[true, false, false, false, false, false, false, false, false, false, false, false, false, false, false] rfl rfl (any_of HT_.out (by kernel_rfl)) (fun _ _ _ h => h) (Or.inl ⟨by rfl, ?_⟩) ?_ ?_
        rotate_left
        · intro w'
          go_simp
          with_reducible rfl
        rotate_left
        · simp only [Act.put, List.setIfInBounds_toArray, List.set_cons_zero, List.set_cons_succ, i64_w, i32_w]
          rfl
        refine pure_ (i := 1) (N := some 32) (v := ?_) (a' := ?_) #[true, true, false, false, false, false, false, false, false, false, false, false, false, false, false] rfl rfl (any_of HT_.out (by kernel_rfl)) (fun _ _ _ h => h) (Or.inl ⟨by rfl, ?_⟩) ?_ ?_
        rotate_left
        · intro w'
          go_simp
          with_reducible rfl
        rotate_left
        · simp only [Act.put, List.setIfInBounds_toArray, List.set_cons_zero, List.set_cons_succ, i64_w, i32_w]
          rfl
        refine pure_ (i := 2) (N := some 33) (v := ?_) (a' := ?_) #[true, true, true, false, false, false, false, false, false, false, false, false, false, false, false] rfl rfl (any_of HT_.out (by kernel_rfl)) (fun _ _ _ h => h) (Or.inl ⟨by rfl, ?_⟩) ?_ ?_
        rotate_left
        · intro w'
          go_simp
          with_reducible rfl
        rotate_left
        · simp only [Act.put, List.setIfInBounds_toArray, List.set_cons_zero, List.set_cons_succ, i64_w, i32_w]
          rfl
        refine take_ (i := 3) (N := some 34) (v := ?_) (a' := ?_) #[true, true, true, true, false, false, false, false, false, false, false, false, false, false, false] rfl rfl (take_of HT_.out (by kernel_rfl)) (fun _ _ _ h => h) (Or.inl ⟨by rfl, ?_⟩) hHeld ?_ ?_
        rotate_left
        · rintro w' s0
          go_simp
          with_reducible rfl
        rotate_left
        · simp only [Act.put, List.setIfInBounds_toArray, List.set_cons_zero, List.set_cons_succ, i64_w, i32_w]
          rfl
        refine pure_ (i := 7) (N := some 38) (v := ?_) (a' := ?_) #[true, true, true, true, false, false, false, true, false, false, false, false, false, false, false] rfl rfl (any_of HT_.out (by kernel_rfl)) (fun _ _ _ h => h) (Or.inl ⟨by rfl, ?_⟩) ?_ ?_
        rotate_left
        · intro w'
          go_simp
          with_reducible rfl
        rotate_left
        · simp only [Act.put, List.setIfInBounds_toArray, List.set_cons_zero, List.set_cons_succ, i64_w, i32_w]
          rfl
        refine pure_ (i := 8) (N := some 39) (v := ?_) (a' := ?_) #[true, true, true, true, false, false, false, true, true, false, false, false, false, false, false] rfl rfl (any_of HT_.out (by kernel_rfl)) (fun _ _ _ h => h) (Or.inl ⟨by rfl, ?_⟩) ?_ ?_
        rotate_left
        · intro w'
          go_simp
          with_reducible rfl
        rotate_left
        · simp only [Act.put, List.setIfInBounds_toArray, List.set_cons_zero, List.set_cons_succ, i64_w, i32_w]
          rfl
        refine pure_ (i := 9) (N := some 40) (v := ?_) (a' := ?_) #[true, true, true, true, false, false, false, true, true, true, false, false, false, false, false] rfl rfl (any_of HT_.out (by kernel_rfl)) (fun _ _ _ h => h) (Or.inl ⟨by rfl, ?_⟩) ?_ ?_
        rotate_left
        · intro w'
          go_simp
          with_reducible rfl
        rotate_left
        · simp only [Act.put, List.setIfInBounds_toArray, List.set_cons_zero, List.set_cons_succ, i64_w, i32_w]
          rfl
        refine take_ (i := 10) (N := some 41) (v := ?_) (a' := ?_) #[true, true, true, true, false, false, false, true, true, true, true, false, false, false, false] rfl rfl (take_of HT_.out (by kernel_rfl)) (fun _ _ _ h => h) (Or.inl ⟨by rfl, ?_⟩) hHeld ?_ ?_
        rotate_left
        · rintro w' s0
          go_simp
          with_reducible rfl
        rotate_left
        · simp only [Act.put, List.setIfInBounds_toArray, List.set_cons_zero, List.set_cons_succ, i64_w, i32_w]
          rfl
        refine pure_ (i := 11) (N := some 42) (v := ?_) (a' := ?_) #[true, true, true, true, false, false, false, true, true, true, true, true, false, false, false] rfl rfl (any_of HT_.out (by kernel_rfl)) (fun _ _ _ h => h) (Or.inl ⟨by rfl, ?_⟩) ?_ ?_
        rotate_left
        · intro w'
          go_simp
          with_reducible rfl
        rotate_left
        · simp only [Act.put, List.setIfInBounds_toArray, List.set_cons_zero, List.set_cons_succ, i64_w, i32_w]
          rfl
        refine pure_ (i := 12) (N := some 43) (v := ?_) (a' := ?_) #[true, true, true, true, false, false, false, true, true, true, true, true, true, false, false] rfl rfl (any_of HT_.out (by kernel_rfl)) (fun _ _ _ h => h) (Or.inl ⟨by rfl, ?_⟩) ?_ ?_
        rotate_left
        · intro w'
          go_simp
          with_reducible rfl
        rotate_left
        · simp only [Act.put, List.setIfInBounds_toArray, List.set_cons_zero, List.set_cons_succ, i64_w, i32_w]
          rfl
        refine join_ (σ := Option Addr) 3 #[true, true, true, true, true, true, false, true, true, true, true, true, true, false, false] (fun s => [(36, .agg #[.pointer p]), (35, .agg #[.pointer s])]) (fun s y => Aside0 (Gx w rb p o y ∧ ∃ o1, At y (.pointer s) o1 ∧ txt o1 = pc ∧ Ok o1)) ?_ ?_
        rotate_left
        · intro hCont
          refine two_ (i := 4) (j := 5) (Ni := some 35) (Nj := some 36) #[true, true, true, true, true, false, false, true, true, true, true, true, true, false, false] #[true, true, true, true, false, true, false, true, true, true, true, true, true, false, false] rfl rfl rfl rfl (by kernel_rfl) (by decide) (by decide) (fun K hK => ?_) (fun K hK => ?_)
          · skip
            refine goes_ Try.func13 (by kernel_rfl) rfl #[.string pc] (by rfl) rfl rfl (by (try simp only [List.map_toArray, List.map_cons, List.map_nil]); first | done | rfl) ?_
            refine (new_any pc (by have := Z.out; omega) _).mono ?_
            rintro e y1 ⟨v1, o1, rfl, a1, t1, k1, h⟩
            obtain ⟨q1, rfl⟩ := a1.ptr
            have P1 := Aside0.mk (PX.out.below h)
            have A1 := Aside0.mk a1
            have T1 := Aside0.mk t1
            have K1 := Aside0.mk k1
            clear h a1 t1 k1
            refine ⟨_, rfl, ?_⟩
            refine hK.out _ _ (HC.out _ P1.out.b) (fun hHeld => ?_)
            clear hK K
            refine norm_ (a' := ?_) ?_ ?_
            rotate_left
            · show Act.put _ (some 35) _ = _
              simp only [Act.put, List.setIfInBounds_toArray, List.set_cons_zero, List.set_cons_succ, i64_w, i32_w]
              rfl
            refine one_ (i := 5) (N := some 36) #[true, true, true, true, true, true, false, true, true, true, true, true, true, false, false] rfl rfl (one_of HT_.out (by kernel_rfl)) (by decide) (fun K hK => ?_)
            have hcl := P1.out.c.cell
            refine value_ (w1 := ?_) (v := ?_) (by rfl) rfl ?_ ?_
            rotate_left 2
            · go_simp
              first | (constructor <;> rfl) | rfl
            clear hcl
            refine hK.out _ _ (HC.out _ P1.out.b) (fun hHeld => ?_)
            clear hK K
            refine norm_ (a' := ?_) ?_ ?_
            rotate_left
            · show Act.put _ (some 36) _ = _
              simp only [Act.put, List.setIfInBounds_toArray, List.set_cons_zero, List.set_cons_succ, i64_w, i32_w]
              rfl
            exact norm_ (by simp only [putAll, Act.put, List.setIfInBounds_toArray, List.set_cons_zero, List.set_cons_succ]) (hCont q1 _ ⟨P1.out, o1, A1.out, T1.out, K1.out⟩)
          · skip
            have hcl := PX.out.c.cell
            refine value_ (w1 := ?_) (v := ?_) (by rfl) rfl ?_ ?_
            rotate_left 2
            · go_simp
              first | (constructor <;> rfl) | rfl
            clear hcl
            refine hK.out _ _ (HC.out _ PX.out.b) (fun hHeld => ?_)
            clear hK K
            refine norm_ (a' := ?_) ?_ ?_
            rotate_left
            · show Act.put _ (some 36) _ = _
              simp only [Act.put, List.setIfInBounds_toArray, List.set_cons_zero, List.set_cons_succ, i64_w, i32_w]
              rfl
            refine one_ (i := 4) (N := some 35) #[true, true, true, true, true, true, false, true, true, true, true, true, true, false, false] rfl rfl (one_of HT_.out (by kernel_rfl)) (by decide) (fun K hK => ?_)
            refine goes_ Try.func13 (by kernel_rfl) rfl #[.string pc] (by rfl) rfl rfl (by (try simp only [List.map_toArray, List.map_cons, List.map_nil]); first | done | rfl) ?_
            refine (new_any pc (by have := Z.out; omega) _).mono ?_
            rintro e y2 ⟨v1, o1, rfl, a1, t1, k1, h⟩
            obtain ⟨q1, rfl⟩ := a1.ptr
            have P2 := Aside0.mk (PX.out.below h)
            have A1 := Aside0.mk a1
            have T1 := Aside0.mk t1
            have K1 := Aside0.mk k1
            clear h a1 t1 k1
            refine ⟨_, rfl, ?_⟩
            refine hK.out _ _ (HC.out _ P2.out.b) (fun hHeld => ?_)
            clear hK K
            refine norm_ (a' := ?_) ?_ ?_
            rotate_left
            · show Act.put _ (some 35) _ = _
              simp only [Act.put, List.setIfInBounds_toArray, List.set_cons_zero, List.set_cons_succ, i64_w, i32_w]
              rfl
            exact norm_ (by simp only [putAll, Act.put, List.setIfInBounds_toArray, List.set_cons_zero, List.set_cons_succ]) (hCont q1 _ ⟨P2.out, o1, A1.out, T1.out, K1.out⟩)
        rintro q1 y ⟨hP, o1, hA, hT, hK1⟩
        refine norm_ (a' := ?_) ?_ ?_
        rotate_left
        · simp only [putAll, Act.put, List.setIfInBounds_toArray, List.set_cons_zero, List.set_cons_succ]
          rfl
        refine one_ (i := 6) (N := some 37) #[true, true, true, true, true, true, true, true, true, true, true, true, true, false, false] rfl rfl (one_of HT_.out (by kernel_rfl)) (by decide) (fun K hK => ?_)
        refine goes_ Try.func14 (by kernel_rfl) rfl #[.agg #[.pointer q1], .agg #[.pointer p]] (by rfl) rfl rfl (by (try simp only [List.map_toArray, List.map_cons, List.map_nil]); first | done | rfl) ?_
        refine (concat_any _ _ _ _ _ hA hK1 hP.c.at_ OKO.out.2 (by have := Z.out; have z1 := txt_size o1; have z2 := txt_size o; rw [hT] at z1; rw [OKO.out.1] at z2; omega)).mono ?_
        rintro e y2 ⟨v2, o2, rfl, a2, t2, k2, h⟩
        obtain ⟨q2, rfl⟩ := a2.ptr
        have PZ := Aside0.mk (hP.below h)
        have A2 := Aside0.mk a2
        have T2 : Aside0 (txt o2 = pc ++ acc) := Aside0.mk (by rw [t2, hT, OKO.out.1])
        have K2 := Aside0.mk k2
        clear h a2 t2 k2 hP hA hT hK1
        refine ⟨_, rfl, ?_⟩
        refine hK.out _ _ (HC.out _ PZ.out.b) (fun hHeld => ?_)
        clear hK K
        refine norm_ (a' := ?_) ?_ ?_
        rotate_left
        · show Act.put _ (some 37) _ = _
          simp only [Act.put, List.setIfInBounds_toArray, List.set_cons_zero, List.set_cons_succ, i64_w, i32_w]
          rfl
        refine one_ (i := 13) (N := none) #[true, true, true, true, true, true, true, true, true, true, true, true, true, true, false] rfl rfl (one_of HT_.out (by kernel_rfl)) (by decide) (fun K hK => ?_)
        have hcc := PZ.out.c.cell
        have hff := fun q => blk_frozen PZ.out.c.blk q
        refine skip_ (w1 := ?_) (by rfl) rfl ?_ ?_
        rotate_left
        · go_simp
          rfl
        have PY := Aside0.mk (Gx.put PZ.out A2.out)
        clear hcc hff
        refine hK.out _ _ (HC.out _ PY.out.b) (fun hHeld => ?_)
        clear hK K
        obtain ⟨Y, hY⟩ : ∃ Y, y2.setCell ⟨rb, 0, none⟩ (.pointer q2) = Y := ⟨_, rfl⟩
        rw [hY] at PY hHeld ⊢
        clear hY
        refine pure_ (i := 14) (N := some 6) (v := ?_) (a' := ?_) #[true, true, true, true, true, true, true, true, true, true, true, true, true, true, true] rfl rfl (any_of HT_.out (by kernel_rfl)) (fun _ _ _ h => h) (Or.inl ⟨by rfl, ?_⟩) ?_ ?_
        rotate_left
        · intro w'
          go_simp
          with_reducible rfl
        rotate_left
        · simp only [Act.put, List.setIfInBounds_toArray, List.set_cons_zero, List.set_cons_succ, i64_w, i32_w]
          rfl
        refine done_ (done_of HT_.out (by kernel_rfl)) ?_
        have hcY := PY.out.c.cell
        obtain ⟨m, hm⟩ : ∃ m : Nat, m = pc.size + acc.size := ⟨_, rfl⟩
        have hz : ((pc.size : Int) + (acc.size : Int)) = (m : Int) := by omega
        have hz2 : pc.size + acc.size = m := hm.symm
        have HM : Aside0 ((pc ++ acc).size = m) := Aside0.mk (by rw [ByteArray.size_append]; exact hm.symm)
        have SZ : Aside0 (siz o2 = m) := Aside0.mk (by rw [← txt_size, T2.out]; exact HM.out)
        have SL : Aside0 (m ≤ 4070) := Aside0.mk (by have := Z.out; omega)
        have n1 : ((siz o2 : Int) != (m : Int)) = false := by rw [SZ.out]; simp
        have n1x : (siz o2 != m) = false := by rw [SZ.out]; simp
        have n0 : decide ((hgt o2 : Int) < 0) = false := decide_eq_false (by omega)
        have n2 : decide ((bnd m : Int) < (hgt o2 : Int)) = false := by have := Ok.high K2.out; rw [SZ.out] at this; exact decide_eq_false (by omega)
        have n2x : decide (bnd m < hgt o2) = false := by have := Ok.high K2.out; rw [SZ.out] at this; exact decide_eq_false (by omega)
        replace hm := Aside0.mk hm
        go_wp2_with (go_at_call 23; refine (len_any o2 _ _ PY.out.c.at_).mono ?_; rintro e z1 ⟨rfl, h⟩; have PA := Aside0.mk (PY.out.below h); have d1 := PA.out.c.cell; clear h)
        go_wp2_with (go_at_call 24; refine (height_any o2 _ _ PA.out.c.at_).mono ?_; rintro e z2 ⟨rfl, h⟩; have PB := Aside0.mk (PA.out.below h); have d2 := PB.out.c.cell; clear h)
        go_wp2_with (go_at_call 24; refine (height_any o2 _ _ PB.out.c.at_).mono ?_; rintro e z3 ⟨rfl, h⟩; have PC := Aside0.mk (PB.out.below h); have d3 := PC.out.c.cell; clear h)
        go_wp2_with (go_at_call 25; refine (refBound_any m (by have := SL.out; omega) _).mono ?_; rintro e z4 ⟨rfl, h⟩; have PD := Aside0.mk (PC.out.below h); clear h)
        go_wp2
        go_roundg (l0.length - (n + 1))
        case measure => have := Q.out; omega
        case rel => exact ⟨n + 1, pc ++ acc, q2, o2, rfl, (by first | rfl | (simp; done) | (have := Q.out; have := HL.out; simp; unfold wrap64; omega)), ⟨by have := Q.out; omega, by have := Q.out; omega, by rw [HM.out]; exact SL.out⟩, ⟨T2.out, K2.out⟩, ⟨PD.out⟩⟩
      | false =>
        go_wp2_with (fail)
        refine start_ (n := 15) (S := fun w' => w'.cell? (ad.add n) = some (.string pc)) (ds := []) #[false, false, false, false, false, false, false, false, false, false, false, false, false, false, false] (by kernel_rfl) rfl rfl (HC.out _ PX.out.b) (fun hHeld => ?_)
        refine with_tab (T := rtab .any (opsOf Try.f8 12)) rfl (fun HT_ => ?_)
        generalize wr.drew = X1 at PX hHeld ⊢
        refine pure_ (i := 1) (N := some 45) (v := ?_) (a' := ?_) #[false, true, false, false, false, false, false, false, false, false, false, false, false, false, false] rfl rfl (any_of HT_.out (by kernel_rfl)) (fun _ _ _ h => h) (Or.inl ⟨by rfl, ?_⟩) ?_ ?_
        rotate_left
        · intro w'
          go_simp
          with_reducible rfl
        rotate_left
        · simp only [Act.put, List.setIfInBounds_toArray, List.set_cons_zero, List.set_cons_succ, i64_w, i32_w]
          rfl
        refine pure_ (i := 2) (N := some 46) (v := ?_) (a' := ?_) #[false, true, true, false, false, false, false, false, false, false, false, false, false, false, false] rfl rfl (any_of HT_.out (by kernel_rfl)) (fun _ _ _ h => h) (Or.inl ⟨by rfl, ?_⟩) ?_ ?_
        rotate_left
        · intro w'
          go_simp
          with_reducible rfl
        rotate_left
        · simp only [Act.put, List.setIfInBounds_toArray, List.set_cons_zero, List.set_cons_succ, i64_w, i32_w]
          rfl
        refine pure_ (i := 3) (N := some 47) (v := ?_) (a' := ?_) #[false, true, true, true, false, false, false, false, false, false, false, false, false, false, false] rfl rfl (any_of HT_.out (by kernel_rfl)) (fun _ _ _ h => h) (Or.inl ⟨by rfl, ?_⟩) ?_ ?_
        rotate_left
        · intro w'
          go_simp
          with_reducible rfl
        rotate_left
        · simp only [Act.put, List.setIfInBounds_toArray, List.set_cons_zero, List.set_cons_succ, i64_w, i32_w]
          rfl
        refine take_ (i := 4) (N := some 48) (v := ?_) (a' := ?_) #[false, true, true, true, true, false, false, false, false, false, false, false, false, false, false] rfl rfl (take_of HT_.out (by kernel_rfl)) (fun _ _ _ h => h) (Or.inl ⟨by rfl, ?_⟩) hHeld ?_ ?_
        rotate_left
        · rintro w' s0
          go_simp
          with_reducible rfl
        rotate_left
        · simp only [Act.put, List.setIfInBounds_toArray, List.set_cons_zero, List.set_cons_succ, i64_w, i32_w]
          rfl
        refine pure_ (i := 7) (N := some 51) (v := ?_) (a' := ?_) #[false, true, true, true, true, false, false, true, false, false, false, false, false, false, false] rfl rfl (any_of HT_.out (by kernel_rfl)) (fun _ _ _ h => h) (Or.inl ⟨by rfl, ?_⟩) ?_ ?_
        rotate_left
        · intro w'
          go_simp
          with_reducible rfl
        rotate_left
        · simp only [Act.put, List.setIfInBounds_toArray, List.set_cons_zero, List.set_cons_succ, i64_w, i32_w]
          rfl
        refine pure_ (i := 8) (N := some 52) (v := ?_) (a' := ?_) #[false, true, true, true, true, false, false, true, true, false, false, false, false, false, false] rfl rfl (any_of HT_.out (by kernel_rfl)) (fun _ _ _ h => h) (Or.inl ⟨by rfl, ?_⟩) ?_ ?_
        rotate_left
        · intro w'
          go_simp
          with_reducible rfl
        rotate_left
        · simp only [Act.put, List.setIfInBounds_toArray, List.set_cons_zero, List.set_cons_succ, i64_w, i32_w]
          rfl
        refine pure_ (i := 9) (N := some 53) (v := ?_) (a' := ?_) #[false, true, true, true, true, false, false, true, true, true, false, false, false, false, false] rfl rfl (any_of HT_.out (by kernel_rfl)) (fun _ _ _ h => h) (Or.inl ⟨by rfl, ?_⟩) ?_ ?_
        rotate_left
        · intro w'
          go_simp
          with_reducible rfl
        rotate_left
        · simp only [Act.put, List.setIfInBounds_toArray, List.set_cons_zero, List.set_cons_succ, i64_w, i32_w]
          rfl
        refine pure_ (i := 10) (N := some 54) (v := ?_) (a' := ?_) #[false, true, true, true, true, false, false, true, true, true, true, false, false, false, false] rfl rfl (any_of HT_.out (by kernel_rfl)) (fun _ _ _ h => h) (Or.inl ⟨by rfl, ?_⟩) ?_ ?_
        rotate_left
        · intro w'
          go_simp
          with_reducible rfl
        rotate_left
        · simp only [Act.put, List.setIfInBounds_toArray, List.set_cons_zero, List.set_cons_succ, i64_w, i32_w]
          rfl
        refine take_ (i := 11) (N := some 55) (v := ?_) (a' := ?_) #[false, true, true, true, true, false, false, true, true, true, true, true, false, false, false] rfl rfl (take_of HT_.out (by kernel_rfl)) (fun _ _ _ h => h) (Or.inl ⟨by rfl, ?_⟩) hHeld ?_ ?_
        rotate_left
        · rintro w' s0
          go_simp
          with_reducible rfl
        rotate_left
        · simp only [Act.put, List.setIfInBounds_toArray, List.set_cons_zero, List.set_cons_succ, i64_w, i32_w]
          rfl
        refine pure_ (i := 12) (N := some 56) (v := ?_) (a' := ?_) #[false, true, true, true, true, false, false, true, true, true, true, true, true, false, false] rfl rfl (any_of HT_.out (by kernel_rfl)) (fun _ _ _ h => h) (Or.inl ⟨by rfl, ?_⟩) ?_ ?_
        rotate_left
        · intro w'
          go_simp
          with_reducible rfl
        rotate_left
        · simp only [Act.put, List.setIfInBounds_toArray, List.set_cons_zero, List.set_cons_succ, i64_w, i32_w]
          rfl
        refine join_ (σ := Option Addr) 3 #[true, true, true, true, true, true, false, true, true, true, true, true, true, false, false] (fun s => [(44, .agg #[.pointer p]), (49, .agg #[.pointer s])]) (fun s y => Aside0 (Gx w rb p o y ∧ ∃ o1, At y (.pointer s) o1 ∧ txt o1 = pc ∧ Ok o1)) ?_ ?_
        rotate_left
        · intro hCont
          refine two_ (i := 0) (j := 5) (Ni := some 44) (Nj := some 49) #[true, true, true, true, true, false, false, true, true, true, true, true, true, false, false] #[false, true, true, true, true, true, false, true, true, true, true, true, true, false, false] rfl rfl rfl rfl (by kernel_rfl) (by decide) (by decide) (fun K hK => ?_) (fun K hK => ?_)
          · skip
            have hcl := PX.out.c.cell
            refine value_ (w1 := ?_) (v := ?_) (by rfl) rfl ?_ ?_
            rotate_left 2
            · go_simp
              first | (constructor <;> rfl) | rfl
            clear hcl
            refine hK.out _ _ (HC.out _ PX.out.b) (fun hHeld => ?_)
            clear hK K
            refine norm_ (a' := ?_) ?_ ?_
            rotate_left
            · show Act.put _ (some 44) _ = _
              simp only [Act.put, List.setIfInBounds_toArray, List.set_cons_zero, List.set_cons_succ, i64_w, i32_w]
              rfl
            refine one_ (i := 5) (N := some 49) #[true, true, true, true, true, true, false, true, true, true, true, true, true, false, false] rfl rfl (one_of HT_.out (by kernel_rfl)) (by decide) (fun K hK => ?_)
            refine goes_ Try.func13 (by kernel_rfl) rfl #[.string pc] (by rfl) rfl rfl (by (try simp only [List.map_toArray, List.map_cons, List.map_nil]); first | done | rfl) ?_
            refine (new_any pc (by have := Z.out; omega) _).mono ?_
            rintro e y1 ⟨v1, o1, rfl, a1, t1, k1, h⟩
            obtain ⟨q1, rfl⟩ := a1.ptr
            have P1 := Aside0.mk (PX.out.below h)
            have A1 := Aside0.mk a1
            have T1 := Aside0.mk t1
            have K1 := Aside0.mk k1
            clear h a1 t1 k1
            refine ⟨_, rfl, ?_⟩
            refine hK.out _ _ (HC.out _ P1.out.b) (fun hHeld => ?_)
            clear hK K
            refine norm_ (a' := ?_) ?_ ?_
            rotate_left
            · show Act.put _ (some 49) _ = _
              simp only [Act.put, List.setIfInBounds_toArray, List.set_cons_zero, List.set_cons_succ, i64_w, i32_w]
              rfl
            exact norm_ (by simp only [putAll, Act.put, List.setIfInBounds_toArray, List.set_cons_zero, List.set_cons_succ]) (hCont q1 _ ⟨P1.out, o1, A1.out, T1.out, K1.out⟩)
          · skip
            refine goes_ Try.func13 (by kernel_rfl) rfl #[.string pc] (by rfl) rfl rfl (by (try simp only [List.map_toArray, List.map_cons, List.map_nil]); first | done | rfl) ?_
            refine (new_any pc (by have := Z.out; omega) _).mono ?_
            rintro e y2 ⟨v1, o1, rfl, a1, t1, k1, h⟩
            obtain ⟨q1, rfl⟩ := a1.ptr
            have P2 := Aside0.mk (PX.out.below h)
            have A1 := Aside0.mk a1
            have T1 := Aside0.mk t1
            have K1 := Aside0.mk k1
            clear h a1 t1 k1
            refine ⟨_, rfl, ?_⟩
            refine hK.out _ _ (HC.out _ P2.out.b) (fun hHeld => ?_)
            clear hK K
            refine norm_ (a' := ?_) ?_ ?_
            rotate_left
            · show Act.put _ (some 49) _ = _
              simp only [Act.put, List.setIfInBounds_toArray, List.set_cons_zero, List.set_cons_succ, i64_w, i32_w]
              rfl
            refine one_ (i := 0) (N := some 44) #[true, true, true, true, true, true, false, true, true, true, true, true, true, false, false] rfl rfl (one_of HT_.out (by kernel_rfl)) (by decide) (fun K hK => ?_)
            have hcl := P2.out.c.cell
            refine value_ (w1 := ?_) (v := ?_) (by rfl) rfl ?_ ?_
            rotate_left 2
            · go_simp
              first | (constructor <;> rfl) | rfl
            clear hcl
            refine hK.out _ _ (HC.out _ P2.out.b) (fun hHeld => ?_)
            clear hK K
            refine norm_ (a' := ?_) ?_ ?_
            rotate_left
            · show Act.put _ (some 44) _ = _
              simp only [Act.put, List.setIfInBounds_toArray, List.set_cons_zero, List.set_cons_succ, i64_w, i32_w]
              rfl
            exact norm_ (by simp only [putAll, Act.put, List.setIfInBounds_toArray, List.set_cons_zero, List.set_cons_succ]) (hCont q1 _ ⟨P2.out, o1, A1.out, T1.out, K1.out⟩)
        rintro q1 y ⟨hP, o1, hA, hT, hK1⟩
        refine norm_ (a' := ?_) ?_ ?_
        rotate_left
        · simp only [putAll, Act.put, List.setIfInBounds_toArray, List.set_cons_zero, List.set_cons_succ]
          rfl
        refine one_ (i := 6) (N := some 50) #[true, true, true, true, true, true, true, true, true, true, true, true, true, false, false] rfl rfl (one_of HT_.out (by kernel_rfl)) (by decide) (fun K hK => ?_)
        refine goes_ Try.func14 (by kernel_rfl) rfl #[.agg #[.pointer p], .agg #[.pointer q1]] (by rfl) rfl rfl (by (try simp only [List.map_toArray, List.map_cons, List.map_nil]); first | done | rfl) ?_
        refine (concat_any _ _ _ _ _ hP.c.at_ OKO.out.2 hA hK1 (by have := Z.out; have z1 := txt_size o1; have z2 := txt_size o; rw [hT] at z1; rw [OKO.out.1] at z2; omega)).mono ?_
        rintro e y2 ⟨v2, o2, rfl, a2, t2, k2, h⟩
        obtain ⟨q2, rfl⟩ := a2.ptr
        have PZ := Aside0.mk (hP.below h)
        have A2 := Aside0.mk a2
        have T2 : Aside0 (txt o2 = acc ++ pc) := Aside0.mk (by rw [t2, hT, OKO.out.1])
        have K2 := Aside0.mk k2
        clear h a2 t2 k2 hP hA hT hK1
        refine ⟨_, rfl, ?_⟩
        refine hK.out _ _ (HC.out _ PZ.out.b) (fun hHeld => ?_)
        clear hK K
        refine norm_ (a' := ?_) ?_ ?_
        rotate_left
        · show Act.put _ (some 50) _ = _
          simp only [Act.put, List.setIfInBounds_toArray, List.set_cons_zero, List.set_cons_succ, i64_w, i32_w]
          rfl
        refine one_ (i := 13) (N := none) #[true, true, true, true, true, true, true, true, true, true, true, true, true, true, false] rfl rfl (one_of HT_.out (by kernel_rfl)) (by decide) (fun K hK => ?_)
        have hcc := PZ.out.c.cell
        have hff := fun q => blk_frozen PZ.out.c.blk q
        refine skip_ (w1 := ?_) (by rfl) rfl ?_ ?_
        rotate_left
        · go_simp
          rfl
        have PY := Aside0.mk (Gx.put PZ.out A2.out)
        clear hcc hff
        refine hK.out _ _ (HC.out _ PY.out.b) (fun hHeld => ?_)
        clear hK K
        obtain ⟨Y, hY⟩ : ∃ Y, y2.setCell ⟨rb, 0, none⟩ (.pointer q2) = Y := ⟨_, rfl⟩
        rw [hY] at PY hHeld ⊢
        clear hY
        refine pure_ (i := 14) (N := some 6) (v := ?_) (a' := ?_) #[true, true, true, true, true, true, true, true, true, true, true, true, true, true, true] rfl rfl (any_of HT_.out (by kernel_rfl)) (fun _ _ _ h => h) (Or.inl ⟨by rfl, ?_⟩) ?_ ?_
        rotate_left
        · intro w'
          go_simp
          with_reducible rfl
        rotate_left
        · simp only [Act.put, List.setIfInBounds_toArray, List.set_cons_zero, List.set_cons_succ, i64_w, i32_w]
          rfl
        refine done_ (done_of HT_.out (by kernel_rfl)) ?_
        have hcY := PY.out.c.cell
        obtain ⟨m, hm⟩ : ∃ m : Nat, m = acc.size + pc.size := ⟨_, rfl⟩
        have hz : ((acc.size : Int) + (pc.size : Int)) = (m : Int) := by omega
        have hz2 : acc.size + pc.size = m := hm.symm
        have HM : Aside0 ((acc ++ pc).size = m) := Aside0.mk (by rw [ByteArray.size_append]; exact hm.symm)
        have SZ : Aside0 (siz o2 = m) := Aside0.mk (by rw [← txt_size, T2.out]; exact HM.out)
        have SL : Aside0 (m ≤ 4070) := Aside0.mk (by have := Z.out; omega)
        have n1 : ((siz o2 : Int) != (m : Int)) = false := by rw [SZ.out]; simp
        have n1x : (siz o2 != m) = false := by rw [SZ.out]; simp
        have n0 : decide ((hgt o2 : Int) < 0) = false := decide_eq_false (by omega)
        have n2 : decide ((bnd m : Int) < (hgt o2 : Int)) = false := by have := Ok.high K2.out; rw [SZ.out] at this; exact decide_eq_false (by omega)
        have n2x : decide (bnd m < hgt o2) = false := by have := Ok.high K2.out; rw [SZ.out] at this; exact decide_eq_false (by omega)
        replace hm := Aside0.mk hm
        go_wp2_with (go_at_call 23; refine (len_any o2 _ _ PY.out.c.at_).mono ?_; rintro e z1 ⟨rfl, h⟩; have PA := Aside0.mk (PY.out.below h); have d1 := PA.out.c.cell; clear h)
        go_wp2_with (go_at_call 24; refine (height_any o2 _ _ PA.out.c.at_).mono ?_; rintro e z2 ⟨rfl, h⟩; have PB := Aside0.mk (PA.out.below h); have d2 := PB.out.c.cell; clear h)
        go_wp2_with (go_at_call 24; refine (height_any o2 _ _ PB.out.c.at_).mono ?_; rintro e z3 ⟨rfl, h⟩; have PC := Aside0.mk (PB.out.below h); have d3 := PC.out.c.cell; clear h)
        go_wp2_with (go_at_call 25; refine (refBound_any m (by have := SL.out; omega) _).mono ?_; rintro e z4 ⟨rfl, h⟩; have PD := Aside0.mk (PC.out.below h); clear h)
        go_wp2
        go_roundg (l0.length - (n + 1))
        case measure => have := Q.out; omega
        case rel => exact ⟨n + 1, acc ++ pc, q2, o2, rfl, (by first | rfl | (simp; done) | (have := Q.out; have := HL.out; simp; unfold wrap64; omega)), ⟨by have := Q.out; omega, by have := Q.out; omega, by rw [HM.out]; exact SL.out⟩, ⟨T2.out, K2.out⟩, ⟨PD.out⟩⟩
    · have l1 : ((n : Int) < (l0.length : Int)) = False := eq_false (by omega)
      have l1x : (n < l0.length) = False := eq_false hlt
      have hcl := PW.out.c.cell
      have SB : Aside0 (siz o ≤ 140737488355328) := Aside0.mk (by rw [← txt_size, OKO.out.1]; omega)
      clear q1 q2 q3 hlt
      go_wp2_with (go_at_call 11; refine (awake_any _).mono ?_; rintro e z1 ⟨rfl, h⟩; have PA := Aside0.mk (PW.out.below h); have d1 := PA.out.c.cell; clear h)
      go_wp2_with (go_at_call 22; refine (string_any o _ _ PA.out.c.at_ SB.out).mono ?_; rw [OKO.out.1]; rintro e z2 ⟨rfl, h⟩; have PB := Aside0.mk (PA.out.below h); clear h)
      go_wp2
      go_ret
      exact ⟨rfl, PB.out.b⟩
end Go.Proofs.Ytmoceagbmgoijaa.Rop
