/- A law of the rope: its call answers true, for all arguments. -/
import Derived.Test.YtmoceagbmgoijaaJoi
import Derived.KernelRfl
import Derived.RangeFuncNested
import Derived.RangeFuncBound
import Derived.RangeFuncCalls
import Derived.RangeFuncLeaves
import Derived.OwnWalkIn
import Derived.TacticsInMore
import Derived.LoopNIn
import Derived.LoopIn
import Derived.WalkKit
import Derived.Outline
import Derived.BigRegionIn
namespace Go.Proofs.Ytmoceagbmgoijaa.Rop
open Go.RowKit Go.Proofs.YtmoceagbmgoijaaW.PrintWords Go.Proofs.YtmoceagbmgoijaaW.PrintLast Go.Proofs.YtmoceagbmgoijaaW.PrintMore Go.Proofs.Ytmoceagbmgoijaa.Tre Go.Proofs.Ytmoceagbmgoijaa.PA
attribute [local go_sem] Oper.semAt_some max2_int min2_int max_two min_two max_three min_three max_four min_four
set_option linter.unusedVariables false
set_option linter.unusedSimpArgs false

/-- the law's variables before the range: the number of the stop and the rope -/
structure Dx (w : World) (st : Int) (rB : Nat) (p : Option Addr) (o : Option T) (x : World) : Prop where
  b : Below w.heap.size w x
  k : x.heap[w.heap.size]? = some (.cells #[.int .u8 st] 5 (0, 0))
  c : Cel x rB p o
theorem Dx.below {w x x' : World} {st : Int} {rB : Nat} {p : Option Addr} {o : Option T} (h : Dx w st rB p o x) (hb : Below x.heap.size x x') : Dx w st rB p o x' := ⟨h.b.trans (hb.mono h.b.size), (hb.block _ (lt_of_some h.k)).trans h.k, h.c.below hb⟩
structure Ex (w : World) (st : Int) (x : World) : Prop where
  b : Below w.heap.size w x
  k : x.heap[w.heap.size]? = some (.cells #[.int .u8 st] 5 (0, 0))
theorem Ex.below {w x x' : World} {st : Int} (h : Ex w st x) (hb : Below x.heap.size x x') : Ex w st x' := ⟨h.b.trans (hb.mono h.b.size), (hb.block _ (lt_of_some h.k)).trans h.k⟩
theorem Ex.fresh {w x : World} {st : Int} {p : Option Addr} {o : Option T} (h : Ex w st x) (a : At x (.pointer p) o) : Dx w st x.heap.size p o (x.alloc (.cells #[.pointer p] 26)) :=
  ⟨h.b.trans ((bal x _).mono h.b.size), ((bal x _).block _ (lt_of_some h.k)).trans h.k, World.alloc_heap_new x _, a.alloc _⟩
/-- the law's variables in the range -/
structure Jc (w : World) (st : Int) (sB nB : Nat) (s : ByteArray) (n : Nat) (W : World) : Prop where
  hs : W.heap[sB]? = some (.cells #[.string s] 9 (0, 0))
  hn : W.heap[nB]? = some (.cells #[.int .i64 n] 3 (0, 0))
  hk : W.heap[w.heap.size]? = some (.cells #[.int .u8 st] 5 (0, 0))
theorem Jc.own {β : Type} (w : World) (st : Int) (sB nB : Nat) (f : β → ByteArray) (g : β → Nat) : Own (fun x W => Jc w st sB nB (f x) (g x) W) := fun s W W' row hs hg hr =>
  ⟨(grownBy_keeps_cells hg hr hs.hs rfl).trans hs.hs, (grownBy_keeps_cells hg hr hs.hn rfl).trans hs.hn, (grownBy_keeps_cells hg hr hs.hk rfl).trans hs.hk⟩
/-- the stop's number, as the law computes it -/
def QQ (st : Int) : Int := wrap64 (st.tmod 8)
set_option maxHeartbeats 16000000 in
set_option maxRecDepth 100000 in
theorem chunks_law (sa sb : ByteArray) (st : Int) (w : World) :
    Calls Try.prog 10 #[.string sa, .string sb, .int .u8 st] w fun e w' => e = .returned (.bool true) ∧ Below w.heap.size w w' := by
  have b0 := Aside0.mk (bal w (.cells #[.int .u8 st] 5))
  by_cases c0 : 1000 < sa.size
  · have c1 : decide (1000 < (sa.size : Int)) = true := decide_eq_true (by omega)
    have c1x : decide (1000 < sa.size) = true := decide_eq_true c0
    clear c0
    go_enter Try.func10, Try.ntmps10
    go_wp2_with (go_at_call 11; refine (awake_any _).mono ?_; rintro e x1 ⟨rfl, h⟩)
    go_ret
    exact ⟨rfl, b0.out.trans (h.mono (by simp only [World.size_alloc]; omega))⟩
  have c1 : decide (1000 < (sa.size : Int)) = false := decide_eq_false (by omega)
  have c1x : decide (1000 < sa.size) = false := decide_eq_false c0
  by_cases c2 : 1000 < sb.size
  · have c3 : decide (1000 < (sb.size : Int)) = true := decide_eq_true (by omega)
    have c3x : decide (1000 < sb.size) = true := decide_eq_true c2
    clear c0 c2
    go_enter Try.func10, Try.ntmps10
    go_wp2_with (go_at_call 11; refine (awake_any _).mono ?_; rintro e x1 ⟨rfl, h⟩)
    go_ret
    exact ⟨rfl, b0.out.trans (h.mono (by simp only [World.size_alloc]; omega))⟩
  have c3 : decide (1000 < (sb.size : Int)) = false := decide_eq_false (by omega)
  have c3x : decide (1000 < sb.size) = false := decide_eq_false c2
  have s1 : (9223372036854775807 < sa.size + sb.size) = False := eq_false (by omega)
  have HZ : Aside0 (sa.size ≤ 1000 ∧ sb.size ≤ 1000) := Aside0.mk ⟨by omega, by omega⟩
  clear c0 c2
  have E0 : Aside0 (Ex w st (w.alloc (.cells #[.int .u8 st] 5))) := Aside0.mk ⟨b0.out, World.alloc_heap_new w _⟩
  refine (callsIn_wide (n := 6)).1 ?_
  refine callsIn_of_wp_marks Try.func10 rfl trivial ?_ rfl
  simp only [Try.ntmps10, List.size_toArray, List.length_cons, List.length_nil, Nat.reduceAdd, Nat.reduceSub, Array.replicate_succ, Array.replicate_zero, List.push_toArray, List.append_toArray, List.nil_append, List.cons_append]
  gi_wp2_with (refine ⟨trivial, ?_⟩; gi_at_call 13; refine (callsIn_wide.2 (new_any sa (by have := HZ.out.1; omega) _)).mono ?_; rintro e x1 ⟨v1, o1, rfl, a1, t1, k1, h⟩; obtain ⟨p1, rfl⟩ := a1.ptr; have E1 := Aside0.mk (E0.out.below h); have A1 := Aside0.mk a1; have T1 := Aside0.mk t1; have K1 := Aside0.mk k1; clear h a1 t1 k1)
  gi_wp2_with (refine ⟨trivial, ?_⟩; gi_at_call 13; refine (callsIn_wide.2 (new_any sb (by have := HZ.out.2; omega) _)).mono ?_; rintro e x2 ⟨v2, o2, rfl, a2, t2, k2, h⟩; obtain ⟨p2, rfl⟩ := a2.ptr; have E2 := Aside0.mk (E1.out.below h); have A2 := Aside0.mk a2; have B2 := Aside0.mk (A1.out.below h); have T2 := Aside0.mk t2; have K2 := Aside0.mk k2; clear h a2 t2 k2)
  have Z1 : Aside0 (siz o1 = sa.size ∧ siz o2 = sb.size) := Aside0.mk ⟨by rw [← txt_size, T1.out], by rw [← txt_size, T2.out]⟩
  refine ⟨trivial, ?_⟩
  gi_at_call 14
  refine (callsIn_wide.2 (concat_any o1 o2 _ _ _ B2.out K1.out A2.out K2.out (by rw [Z1.out.1, Z1.out.2]; have := HZ.out; omega))).mono ?_
  rintro e x3 ⟨v3, o, rfl, a3, t3, k3, h⟩
  obtain ⟨p, rfl⟩ := a3.ptr
  rw [T1.out, T2.out] at t3
  have D3 := Aside0.mk ((E2.out.below h).fresh a3)
  have T3 := Aside0.mk t3
  have K3 := Aside0.mk k3
  obtain ⟨rB, hrB⟩ : ∃ rB, rB = x3.heap.size := ⟨_, rfl⟩
  obtain ⟨X3, hX3⟩ : ∃ X, x3.alloc (.cells #[.pointer p] 26) = X := ⟨_, rfl⟩
  rw [hX3] at D3
  rw [← hrB] at D3
  have c4 := D3.out.c.cell
  have Z3 : Aside0 (siz o ≤ 2000) := Aside0.mk (by rw [← txt_size, T3.out, ByteArray.size_append]; have := HZ.out; omega)
  clear h a3 t3 k3
  replace hrB := Aside0.mk hrB
  replace hX3 := Aside0.mk hX3
  gi_wp2
  rw [← hrB.out, hX3.out]
  have J4 : Calls Try.prog 26 #[.agg #[.pointer p]] X3 fun e w' => e = .returned (.tuple #[.string (sa ++ sb), .bool true]) ∧ Below X3.heap.size X3 w' := by
    have := joined_any o _ X3 D3.out.c.at_ K3.out (by have := Z3.out; omega)
    rwa [T3.out] at this
  refine ⟨trivial, ?_⟩
  refine (callsIn_wide.2 J4).mono ?_
  clear J4
  rintro e x4 ⟨rfl, h⟩
  have D4 := Aside0.mk (D3.out.below h)
  have c5 := D4.out.c.cell
  clear h c4
  gi_wp2
  have J5 : Calls Try.prog 26 #[.agg #[.pointer p]] x4 fun e w' => e = .returned (.tuple #[.string (sa ++ sb), .bool true]) ∧ Below x4.heap.size x4 w' := by
    have := joined_any o _ x4 D4.out.c.at_ K3.out (by have := Z3.out; omega)
    rwa [T3.out] at this
  refine ⟨trivial, ?_⟩
  refine (callsIn_wide.2 J5).mono ?_
  clear J5
  rintro e x5 ⟨rfl, h⟩
  have D5 := Aside0.mk (D4.out.below h)
  have c6 := D5.out.c.cell
  clear h c5
  obtain ⟨sB, hsB⟩ : ∃ sB, sB = x5.heap.size := ⟨_, rfl⟩
  obtain ⟨nB, hnB⟩ : ∃ nB, nB = x5.heap.size + 1 := ⟨_, rfl⟩
  obtain ⟨X7, hX7⟩ : ∃ X, (x5.alloc (.cells #[.string ⟨#[]⟩] 9)).alloc (.cells #[.int .i64 0] 3) = X := ⟨_, rfl⟩
  have B7 : Below x5.heap.size x5 X7 := by rw [← hX7]; exact ((Below.refl _ _).alloc (Nat.le_refl _) _).alloc (by simp only [World.size_alloc]; omega) _
  have z7 : X7.heap.size = x5.heap.size + 2 := by rw [← hX7]; simp only [World.size_alloc]
  have J7 : Jc w st sB nB ⟨#[]⟩ 0 X7 := by
    have y1 : (x5.alloc (.cells #[.string ⟨#[]⟩] 9)).heap.size = x5.heap.size + 1 := by simp only [World.size_alloc]
    have D7 := D5.out.below B7
    refine ⟨?_, ?_, D7.k⟩
    · rw [← hX7, hsB, Below.heap_alloc _ _ _ (by omega)]; exact World.alloc_heap_new _ _
    · rw [← hX7, hnB, ← y1]; exact World.alloc_heap_new _ _
  have D7 := Aside0.mk (D5.out.below B7)
  have c7 : ((x5.alloc (.cells #[.string ⟨#[]⟩] 9)).alloc (.cells #[.int .i64 0] 3)).cell? ⟨rB, 0, none⟩ = some (.pointer p) := by rw [hX7]; exact D7.out.c.cell
  replace J7 := Aside0.mk J7
  replace hX7 := Aside0.mk hX7
  replace hsB := Aside0.mk hsB
  replace hnB := Aside0.mk hnB
  clear B7
  replace z7 := Aside0.mk z7
  gi_wp2
  rw [← hnB.out, ← hsB.out, hX7.out]
  clear c7
  refine ⟨trivial, ?_⟩
  refine (callsIn_wide.2 (chunksm_any p _)).mono ?_
  rintro e _ ⟨rfl, rfl⟩
  obtain ⟨X8, hX8⟩ : ∃ X, X7.alloc (.cells #[.pointer p] 26) = X := ⟨_, rfl⟩
  obtain ⟨bx, hbx⟩ : ∃ bx, bx = X7.heap.size := ⟨_, rfl⟩
  rw [hX8, ← hbx]
  have B8 : Below X7.heap.size X7 X8 := by rw [← hX8]; exact bal _ _
  have D8 := Aside0.mk (D7.out.below B8)
  have J8 : Aside0 (Jc w st sB nB ⟨#[]⟩ 0 X8) := Aside0.mk ⟨(B8.block _ (lt_of_some J7.out.hs)).trans J7.out.hs, (B8.block _ (lt_of_some J7.out.hn)).trans J7.out.hn, (B8.block _ (lt_of_some J7.out.hk)).trans J7.out.hk⟩
  have c8 : X8.cell? ⟨bx, 0, none⟩ = some (.pointer p) := by rw [← hX8, hbx]; exact (blk_cell (World.alloc_heap_new X7 _) 0).trans rfl
  have z8 : Aside0 (bx < X8.heap.size) := Aside0.mk (by rw [← hX8, hbx]; simp only [World.size_alloc]; omega)
  have C8 := Aside0.mk c8
  replace hX8 := Aside0.mk hX8
  replace hbx := Aside0.mk hbx
  replace B8 := Aside0.mk B8
  clear c8
  gi_wp2
  rename_i Q' K hK
  have HsB : Aside0 (w.heap.size ≤ sB) := Aside0.mk (by rw [hsB.out]; exact D5.out.b.size)
  have HnB : Aside0 (w.heap.size ≤ nB) := Aside0.mk (by rw [hnB.out]; have := D5.out.b.size; omega)
  have rest : ∀ (D : Nat) (W : World) (s : ByteArray) (n : Nat), X8.heap.size ≤ D → Jc w st sB nB s n W → Below w.heap.size w W → s.size ≤ (sa ++ sb).size → (sa ++ sb).extract 0 s.size = s → ((n : Int) = QQ st ∨ s = sa ++ sb) → W.heap[D]? = some (.deferred (some [])) →
      K { tmps := #[.string sa, .string sb, .int .u8 st, undef, undef, .pointer (some ⟨w.heap.size, 0, none⟩), .bool false, .pointer (some ⟨rB, 0, none⟩), .string (sa ++ sb), .bool true, .string (sa ++ sb), .bool true, .pointer (some ⟨sB, 0, none⟩), .pointer (some ⟨nB, 0, none⟩), undef, .string sa, .int .i64 sa.size, .bool false, .bool false, .string sb, .int .i64 sb.size, .bool false, .bool false, undef, .string sa, .agg #[.pointer p1], .string sb, .agg #[.pointer p2], .agg #[.pointer p], .tuple #[.string (sa ++ sb), .bool true], .agg #[.pointer p], .tuple #[.string (sa ++ sb), .bool true], .string (sa ++ sb), .bool true, .tuple #[.string (sa ++ sb), .bool true], .agg #[.pointer p], .tuple #[.string (sa ++ sb), .bool true], .string (sa ++ sb), .bool true, .bool true, .bool false, .bool false, .bool true, .bool false, .bool false, .bool false, .string (sa ++ sb), .string sa, .string sb, .string (sa ++ sb), .bool false, .bool false, .bool false, .string (sa ++ sb), .string sa, .string sb, .string (sa ++ sb), .bool false, .bool false, .agg #[.pointer p], .func (.func 32) #[] #[.pointer (some ⟨bx, 0, none⟩)], undef, undef, undef, undef, undef, undef, undef, undef, undef, undef, undef, undef, undef, undef, undef, undef, undef, undef, undef, undef, undef, undef, undef, undef, undef, undef, undef, undef, undef, undef, undef, undef, undef, undef, undef, undef, undef, undef, undef], defers := [{ target := .collected D, args := #[] }] } W := by
    intro D W s n hD hj hb h1 h2 h3 h4
    refine hK _ _ ?_
    clear hK
    clear s1 c1 c1x c3 c3x
    generalize sa ++ sb = F at h1 h2 h3 ⊢
    gi_wp2
    rename_i Kz hKz
    have HC : Aside0 ((fun w' => w'.cell? ⟨w.heap.size, 0, none⟩ = some (.int .u8 st) ∧ w'.cell? ⟨sB, 0, none⟩ = some (.string s) ∧ w'.cell? ⟨nB, 0, none⟩ = some (.int .i64 n)) W.drew) := Aside0.mk ⟨(blk_cell hj.hk 0).trans rfl, (blk_cell hj.hs 0).trans rfl, (blk_cell hj.hn 0).trans rfl⟩
    have HB : Aside0 (Below w.heap.size w W.drew) := Aside0.mk (below_drew hb)
    have HK : Aside0 (W.drew.heap[D]? = some (.deferred (some []))) := Aside0.mk h4
    have HD := Aside0.mk hD
    have keepS : ∀ {A B : World}, Below A.heap.size A B → (fun w' => w'.cell? ⟨w.heap.size, 0, none⟩ = some (.int .u8 st) ∧ w'.cell? ⟨sB, 0, none⟩ = some (.string s) ∧ w'.cell? ⟨nB, 0, none⟩ = some (.int .i64 n)) A → (fun w' => w'.cell? ⟨w.heap.size, 0, none⟩ = some (.int .u8 st) ∧ w'.cell? ⟨sB, 0, none⟩ = some (.string s) ∧ w'.cell? ⟨nB, 0, none⟩ = some (.int .i64 n)) B := fun hb ⟨x1, x2, x3⟩ => ⟨(hb.cell (p := ⟨w.heap.size, 0, none⟩) (block_lt_of_cell x1)).trans x1, (hb.cell (p := ⟨sB, 0, none⟩) (block_lt_of_cell x2)).trans x2, (hb.cell (p := ⟨nB, 0, none⟩) (block_lt_of_cell x3)).trans x3⟩
    have l1 : ((s.size : Int) ≤ (F.size : Int)) = True := eq_true (by omega)
    have l1x : (s.size ≤ F.size) = True := eq_true h1
    have l2 : (0 ≤ (s.size : Int)) = True := eq_true (by omega)
    clear hD hj hb h1 h4
    refine wpIn_mono (Q := fun e a w => match e with | .normal => Kz a w | _ => False) (wpIn_wide.2 ?_) (fun e a w h => by cases e <;> first | exact h | exact h.elim)
    by_cases c : (n : Int) = QQ st
    · have hq : ((n : Int) == wrap64 (st.tmod 8)) = true := by rw [c]; exact beq_self_eq_true _
      clear c h3
      refine start_ (n := 29) (S := fun w' => w'.cell? ⟨w.heap.size, 0, none⟩ = some (.int .u8 st) ∧ w'.cell? ⟨sB, 0, none⟩ = some (.string s) ∧ w'.cell? ⟨nB, 0, none⟩ = some (.int .i64 n)) (ds := []) #[false, false, false, false, false, false, false, false, false, false, false, false, false, false, false, false, false, false, false, false, false, false, false, false, false, false, false, false, false] (by kernel_rfl) rfl rfl HC.out (fun hHeld => ?_)
      refine with_tab (T := rtab .any (opsOf Try.f10 14)) rfl (fun HT_ => ?_)
      generalize W.drew = X1 at HC HB HK hHeld ⊢
      refine one_ (i := 0) (N := some 72) #[true, false, false, false, false, false, false, false, false, false, false, false, false, false, false, false, false, false, false, false, false, false, false, false, false, false, false, false, false] rfl rfl (one_of HT_.out (by kernel_rfl)) (by decide) (fun K hK => ?_)
      refine goes_ Try.func11 (by kernel_rfl) rfl #[] (by rfl) rfl rfl (by (try simp only [List.map_toArray, List.map_cons, List.map_nil]); first | done | rfl) ?_
      refine (awake_any _).mono ?_
      rintro e y1 ⟨rfl, h⟩
      have HC1 := Aside0.mk (keepS h HC.out)
      have HB1 := Aside0.mk (HB.out.trans (h.mono HB.out.size))
      have HK1 := Aside0.mk ((h.block D (lt_of_some HK.out)).trans HK.out)
      clear h
      refine ⟨_, rfl, ?_⟩
      refine hK.out _ _ HC1.out (fun hHeld => ?_)
      clear hK K
      refine norm_ (a' := ?_) ?_ ?_
      rotate_left
      · show Act.put _ (some 72) _ = _
        simp only [Act.put, List.setIfInBounds_toArray, List.set_cons_zero, List.set_cons_succ, i64_w, i32_w]
        rfl
      refine pure_ (i := 1) (N := some 73) (v := ?_) (a' := ?_) #[true, true, false, false, false, false, false, false, false, false, false, false, false, false, false, false, false, false, false, false, false, false, false, false, false, false, false, false, false] rfl rfl (any_of HT_.out (by kernel_rfl)) (fun _ _ _ h => h) (Or.inl ⟨by rfl, ?_⟩) ?_ ?_
      rotate_left
      · intro w'
        go_simp
        with_reducible rfl
      rotate_left
      · simp only [Act.put, List.setIfInBounds_toArray, List.set_cons_zero, List.set_cons_succ, i64_w, i32_w]
        rfl
      refine take_ (i := 2) (N := some 74) (v := ?_) (a' := ?_) #[true, true, true, false, false, false, false, false, false, false, false, false, false, false, false, false, false, false, false, false, false, false, false, false, false, false, false, false, false] rfl rfl (take_of HT_.out (by kernel_rfl)) (fun _ _ _ h => h) (Or.inl ⟨by rfl, ?_⟩) hHeld ?_ ?_
      rotate_left
      · rintro w' ⟨s0, s1, s2⟩
        go_simp
        with_reducible rfl
      rotate_left
      · simp only [Act.put, List.setIfInBounds_toArray, List.set_cons_zero, List.set_cons_succ, i64_w, i32_w]
        rfl
      refine pure_ (i := 3) (N := some 75) (v := ?_) (a' := ?_) #[true, true, true, true, false, false, false, false, false, false, false, false, false, false, false, false, false, false, false, false, false, false, false, false, false, false, false, false, false] rfl rfl (any_of HT_.out (by kernel_rfl)) (fun _ _ _ h => h) (Or.inl ⟨by rfl, ?_⟩) ?_ ?_
      rotate_left
      · intro w'
        go_simp
        with_reducible rfl
      rotate_left
      · simp only [Act.put, List.setIfInBounds_toArray, List.set_cons_zero, List.set_cons_succ, i64_w, i32_w]
        rfl
      refine pure_ (i := 4) (N := some 76) (v := ?_) (a' := ?_) #[true, true, true, true, true, false, false, false, false, false, false, false, false, false, false, false, false, false, false, false, false, false, false, false, false, false, false, false, false] rfl rfl (any_of HT_.out (by kernel_rfl)) (fun _ _ _ h => h) (Or.inl ⟨by rfl, ?_⟩) ?_ ?_
      rotate_left
      · intro w'
        go_simp
        with_reducible rfl
      rotate_left
      · simp only [Act.put, List.setIfInBounds_toArray, List.set_cons_zero, List.set_cons_succ, i64_w, i32_w]
        rfl
      refine pure_ (i := 5) (N := some 77) (v := ?_) (a' := ?_) #[true, true, true, true, true, true, false, false, false, false, false, false, false, false, false, false, false, false, false, false, false, false, false, false, false, false, false, false, false] rfl rfl (any_of HT_.out (by kernel_rfl)) (fun _ _ _ h => h) (Or.inl ⟨by rfl, ?_⟩) ?_ ?_
      rotate_left
      · intro w'
        go_simp
        with_reducible rfl
      rotate_left
      · simp only [Act.put, List.setIfInBounds_toArray, List.set_cons_zero, List.set_cons_succ, i64_w, i32_w]
        rfl
      refine pure_ (i := 6) (N := some 78) (v := ?_) (a' := ?_) #[true, true, true, true, true, true, true, false, false, false, false, false, false, false, false, false, false, false, false, false, false, false, false, false, false, false, false, false, false] rfl rfl (any_of HT_.out (by kernel_rfl)) (fun _ _ _ h => h) (Or.inl ⟨by rfl, ?_⟩) ?_ ?_
      rotate_left
      · intro w'
        go_simp
        with_reducible rfl
      rotate_left
      · simp only [Act.put, List.setIfInBounds_toArray, List.set_cons_zero, List.set_cons_succ, i64_w, i32_w]
        rfl
      refine pure_ (i := 7) (N := some 79) (v := ?_) (a' := ?_) #[true, true, true, true, true, true, true, true, false, false, false, false, false, false, false, false, false, false, false, false, false, false, false, false, false, false, false, false, false] rfl rfl (any_of HT_.out (by kernel_rfl)) (fun _ _ _ h => h) (Or.inl ⟨by rfl, ?_⟩) ?_ ?_
      rotate_left
      · intro w'
        go_simp
        with_reducible rfl
      rotate_left
      · simp only [Act.put, List.setIfInBounds_toArray, List.set_cons_zero, List.set_cons_succ, i64_w, i32_w]
        rfl
      refine pure_ (i := 8) (N := some 80) (v := ?_) (a' := ?_) #[true, true, true, true, true, true, true, true, true, false, false, false, false, false, false, false, false, false, false, false, false, false, false, false, false, false, false, false, false] rfl rfl (any_of HT_.out (by kernel_rfl)) (fun _ _ _ h => h) (Or.inl ⟨by rfl, ?_⟩) ?_ ?_
      rotate_left
      · intro w'
        go_simp
        with_reducible rfl
      rotate_left
      · simp only [Act.put, List.setIfInBounds_toArray, List.set_cons_zero, List.set_cons_succ, i64_w, i32_w]
        rfl
      refine pure_ (i := 9) (N := some 81) (v := ?_) (a' := ?_) #[true, true, true, true, true, true, true, true, true, true, false, false, false, false, false, false, false, false, false, false, false, false, false, false, false, false, false, false, false] rfl rfl (any_of HT_.out (by kernel_rfl)) (fun _ _ _ h => h) (Or.inl ⟨by rfl, ?_⟩) ?_ ?_
      rotate_left
      · intro w'
        go_simp
        with_reducible rfl
      rotate_left
      · simp only [Act.put, List.setIfInBounds_toArray, List.set_cons_zero, List.set_cons_succ, i64_w, i32_w]
        rfl
      refine take_ (i := 10) (N := some 82) (v := ?_) (a' := ?_) #[true, true, true, true, true, true, true, true, true, true, true, false, false, false, false, false, false, false, false, false, false, false, false, false, false, false, false, false, false] rfl rfl (take_of HT_.out (by kernel_rfl)) (fun _ _ _ h => h) (Or.inl ⟨by rfl, ?_⟩) hHeld ?_ ?_
      rotate_left
      · rintro w' ⟨s0, s1, s2⟩
        go_simp
        with_reducible rfl
      rotate_left
      · simp only [Act.put, List.setIfInBounds_toArray, List.set_cons_zero, List.set_cons_succ, i64_w, i32_w]
        rfl
      refine pure_ (i := 11) (N := some 83) (v := ?_) (a' := ?_) #[true, true, true, true, true, true, true, true, true, true, true, true, false, false, false, false, false, false, false, false, false, false, false, false, false, false, false, false, false] rfl rfl (any_of HT_.out (by kernel_rfl)) (fun _ _ _ h => h) (Or.inl ⟨by rfl, ?_⟩) ?_ ?_
      rotate_left
      · intro w'
        go_simp
        with_reducible rfl
      rotate_left
      · simp only [Act.put, List.setIfInBounds_toArray, List.set_cons_zero, List.set_cons_succ, i64_w, i32_w]
        rfl
      refine pure_ (i := 12) (N := some 84) (v := .string s) (a' := ?_) #[true, true, true, true, true, true, true, true, true, true, true, true, true, false, false, false, false, false, false, false, false, false, false, false, false, false, false, false, false] rfl rfl (any_of HT_.out (by kernel_rfl)) (fun _ _ _ h => h) (Or.inl ⟨by rfl, ?_⟩) ?_ ?_
      · intro w'
        go_simp
        try with_reducible rfl
      rotate_left
      · simp only [Act.put, List.setIfInBounds_toArray, List.set_cons_zero, List.set_cons_succ, i64_w, i32_w]
        rfl
      refine take_ (i := 13) (N := some 85) (v := ?_) (a' := ?_) #[true, true, true, true, true, true, true, true, true, true, true, true, true, true, false, false, false, false, false, false, false, false, false, false, false, false, false, false, false] rfl rfl (take_of HT_.out (by kernel_rfl)) (fun _ _ _ h => h) (Or.inl ⟨by rfl, ?_⟩) hHeld ?_ ?_
      rotate_left
      · rintro w' ⟨s0, s1, s2⟩
        go_simp
        with_reducible rfl
      rotate_left
      · simp only [Act.put, List.setIfInBounds_toArray, List.set_cons_zero, List.set_cons_succ, i64_w, i32_w]
        rfl
      refine pure_ (i := 14) (N := some 86) (v := ?_) (a' := ?_) #[true, true, true, true, true, true, true, true, true, true, true, true, true, true, true, false, false, false, false, false, false, false, false, false, false, false, false, false, false] rfl rfl (any_of HT_.out (by kernel_rfl)) (fun _ _ _ h => h) (Or.inl ⟨by rfl, ?_⟩) ?_ ?_
      rotate_left
      · intro w'
        go_simp
        with_reducible rfl
      rotate_left
      · simp only [Act.put, List.setIfInBounds_toArray, List.set_cons_zero, List.set_cons_succ, i64_w, i32_w]
        rfl
      refine pure_ (i := 15) (N := some 87) (v := ?_) (a' := ?_) #[true, true, true, true, true, true, true, true, true, true, true, true, true, true, true, true, false, false, false, false, false, false, false, false, false, false, false, false, false] rfl rfl (any_of HT_.out (by kernel_rfl)) (fun _ _ _ h => h) (Or.inl ⟨by rfl, ?_⟩) ?_ ?_
      rotate_left
      · intro w'
        go_simp
        with_reducible rfl
      rotate_left
      · simp only [Act.put, List.setIfInBounds_toArray, List.set_cons_zero, List.set_cons_succ, i64_w, i32_w]
        rfl
      refine pure_ (i := 16) (N := some 88) (v := ?_) (a' := ?_) #[true, true, true, true, true, true, true, true, true, true, true, true, true, true, true, true, true, false, false, false, false, false, false, false, false, false, false, false, false] rfl rfl (any_of HT_.out (by kernel_rfl)) (fun _ _ _ h => h) (Or.inl ⟨by rfl, ?_⟩) ?_ ?_
      rotate_left
      · intro w'
        go_simp
        with_reducible rfl
      rotate_left
      · simp only [Act.put, List.setIfInBounds_toArray, List.set_cons_zero, List.set_cons_succ, i64_w, i32_w]
        rfl
      refine take_ (i := 17) (N := some 89) (v := ?_) (a' := ?_) #[true, true, true, true, true, true, true, true, true, true, true, true, true, true, true, true, true, true, false, false, false, false, false, false, false, false, false, false, false] rfl rfl (take_of HT_.out (by kernel_rfl)) (fun _ _ _ h => h) (Or.inl ⟨by rfl, ?_⟩) hHeld ?_ ?_
      rotate_left
      · rintro w' ⟨s0, s1, s2⟩
        go_simp
        with_reducible rfl
      rotate_left
      · simp only [Act.put, List.setIfInBounds_toArray, List.set_cons_zero, List.set_cons_succ, i64_w, i32_w]
        rfl
      refine take_ (i := 18) (N := some 90) (v := ?_) (a' := ?_) #[true, true, true, true, true, true, true, true, true, true, true, true, true, true, true, true, true, true, true, false, false, false, false, false, false, false, false, false, false] rfl rfl (take_of HT_.out (by kernel_rfl)) (fun _ _ _ h => h) (Or.inl ⟨by rfl, ?_⟩) hHeld ?_ ?_
      rotate_left
      · rintro w' ⟨s0, s1, s2⟩
        go_simp
        with_reducible rfl
      rotate_left
      · simp only [Act.put, List.setIfInBounds_toArray, List.set_cons_zero, List.set_cons_succ, i64_w, i32_w]
        rfl
      refine pure_ (i := 19) (N := some 91) (v := ?_) (a' := ?_) #[true, true, true, true, true, true, true, true, true, true, true, true, true, true, true, true, true, true, true, true, false, false, false, false, false, false, false, false, false] rfl rfl (any_of HT_.out (by kernel_rfl)) (fun _ _ _ h => h) (Or.inl ⟨by rfl, ?_⟩) ?_ ?_
      rotate_left
      · intro w'
        go_simp
        with_reducible rfl
      rotate_left
      · simp only [Act.put, List.setIfInBounds_toArray, List.set_cons_zero, List.set_cons_succ, i64_w, i32_w]
        rfl
      refine pure_ (i := 20) (N := some 92) (v := ?_) (a' := ?_) #[true, true, true, true, true, true, true, true, true, true, true, true, true, true, true, true, true, true, true, true, true, false, false, false, false, false, false, false, false] rfl rfl (any_of HT_.out (by kernel_rfl)) (fun _ _ _ h => h) (Or.inl ⟨by rfl, ?_⟩) ?_ ?_
      rotate_left
      · intro w'
        go_simp
        with_reducible rfl
      rotate_left
      · simp only [Act.put, List.setIfInBounds_toArray, List.set_cons_zero, List.set_cons_succ, i64_w, i32_w]
        rfl
      refine pure_ (i := 21) (N := some 93) (v := ?_) (a' := ?_) #[true, true, true, true, true, true, true, true, true, true, true, true, true, true, true, true, true, true, true, true, true, true, false, false, false, false, false, false, false] rfl rfl (any_of HT_.out (by kernel_rfl)) (fun _ _ _ h => h) (Or.inl ⟨by rfl, ?_⟩) ?_ ?_
      rotate_left
      · intro w'
        go_simp
        with_reducible rfl
      rotate_left
      · simp only [Act.put, List.setIfInBounds_toArray, List.set_cons_zero, List.set_cons_succ, i64_w, i32_w]
        rfl
      refine pure_ (i := 22) (N := some 94) (v := ?_) (a' := ?_) #[true, true, true, true, true, true, true, true, true, true, true, true, true, true, true, true, true, true, true, true, true, true, true, false, false, false, false, false, false] rfl rfl (any_of HT_.out (by kernel_rfl)) (fun _ _ _ h => h) (Or.inl ⟨by rfl, ?_⟩) ?_ ?_
      rotate_left
      · intro w'
        go_simp
        with_reducible rfl
      rotate_left
      · simp only [Act.put, List.setIfInBounds_toArray, List.set_cons_zero, List.set_cons_succ, i64_w, i32_w]
        rfl
      refine pure_ (i := 23) (N := some 95) (v := undef) (a' := ?_) #[true, true, true, true, true, true, true, true, true, true, true, true, true, true, true, true, true, true, true, true, true, true, true, true, false, false, false, false, false] rfl rfl (any_of HT_.out (by kernel_rfl)) (fun _ _ _ h => h) (Or.inr ⟨by rfl, rfl⟩) ?_ ?_
      rotate_left
      · simp only [Act.put, List.setIfInBounds_toArray, List.set_cons_zero, List.set_cons_succ, i64_w, i32_w]
        rfl
      refine pure_ (i := 24) (N := some 96) (v := undef) (a' := ?_) #[true, true, true, true, true, true, true, true, true, true, true, true, true, true, true, true, true, true, true, true, true, true, true, true, true, false, false, false, false] rfl rfl (any_of HT_.out (by kernel_rfl)) (fun _ _ _ h => h) (Or.inr ⟨by rfl, rfl⟩) ?_ ?_
      rotate_left
      · simp only [Act.put, List.setIfInBounds_toArray, List.set_cons_zero, List.set_cons_succ, i64_w, i32_w]
        rfl
      refine pure_ (i := 25) (N := some 97) (v := undef) (a' := ?_) #[true, true, true, true, true, true, true, true, true, true, true, true, true, true, true, true, true, true, true, true, true, true, true, true, true, true, false, false, false] rfl rfl (any_of HT_.out (by kernel_rfl)) (fun _ _ _ h => h) (Or.inr ⟨by rfl, rfl⟩) ?_ ?_
      rotate_left
      · simp only [Act.put, List.setIfInBounds_toArray, List.set_cons_zero, List.set_cons_succ, i64_w, i32_w]
        rfl
      refine pure_ (i := 26) (N := some 98) (v := ?_) (a' := ?_) #[true, true, true, true, true, true, true, true, true, true, true, true, true, true, true, true, true, true, true, true, true, true, true, true, true, true, true, false, false] rfl rfl (any_of HT_.out (by kernel_rfl)) (fun _ _ _ h => h) (Or.inl ⟨by rfl, ?_⟩) ?_ ?_
      rotate_left
      · intro w'
        go_simp
        with_reducible rfl
      rotate_left
      · simp only [Act.put, List.setIfInBounds_toArray, List.set_cons_zero, List.set_cons_succ, i64_w, i32_w]
        rfl
      refine pure_ (i := 27) (N := some 99) (v := ?_) (a' := ?_) #[true, true, true, true, true, true, true, true, true, true, true, true, true, true, true, true, true, true, true, true, true, true, true, true, true, true, true, true, false] rfl rfl (any_of HT_.out (by kernel_rfl)) (fun _ _ _ h => h) (Or.inl ⟨by rfl, ?_⟩) ?_ ?_
      rotate_left
      · intro w'
        go_simp
        with_reducible rfl
      rotate_left
      · simp only [Act.put, List.setIfInBounds_toArray, List.set_cons_zero, List.set_cons_succ, i64_w, i32_w]
        rfl
      refine pure_ (i := 28) (N := some 6) (v := ?_) (a' := ?_) #[true, true, true, true, true, true, true, true, true, true, true, true, true, true, true, true, true, true, true, true, true, true, true, true, true, true, true, true, true] rfl rfl (any_of HT_.out (by kernel_rfl)) (fun _ _ _ h => h) (Or.inl ⟨by rfl, ?_⟩) ?_ ?_
      rotate_left
      · intro w'
        go_simp
        with_reducible rfl
      rotate_left
      · simp only [Act.put, List.setIfInBounds_toArray, List.set_cons_zero, List.set_cons_succ, i64_w, i32_w]
        rfl
      refine done_ (done_of HT_.out (by kernel_rfl)) ?_
      refine hKz _ _ ?_
      gi_wp2
      refine ⟨by simp, .inl ⟨_, _, rfl, run_takeDeferred HK1.out, ?_⟩⟩
      refine ⟨_, results_tmp rfl _ _ _, rfl, ?_⟩
      exact HB1.out.trans (belowK_b (w := w) (Nat.le_refl _) y1 D _ _ (by have := HD.out; have := D8.out.b.size; omega) HK1.out rfl rfl)
    · have hq : ((n : Int) == wrap64 (st.tmod 8)) = false := beq_eq_false_iff_ne.2 c
      have h4 : s = F := h3.resolve_left c
      subst h4
      clear c h3
      refine start_ (n := 29) (S := fun w' => w'.cell? ⟨w.heap.size, 0, none⟩ = some (.int .u8 st) ∧ w'.cell? ⟨sB, 0, none⟩ = some (.string s) ∧ w'.cell? ⟨nB, 0, none⟩ = some (.int .i64 n)) (ds := []) #[false, false, false, false, false, false, false, false, false, false, false, false, false, false, false, false, false, false, false, false, false, false, false, false, false, false, false, false, false] (by kernel_rfl) rfl rfl HC.out (fun hHeld => ?_)
      refine with_tab (T := rtab .any (opsOf Try.f10 14)) rfl (fun HT_ => ?_)
      generalize W.drew = X1 at HC HB HK hHeld ⊢
      refine one_ (i := 0) (N := some 72) #[true, false, false, false, false, false, false, false, false, false, false, false, false, false, false, false, false, false, false, false, false, false, false, false, false, false, false, false, false] rfl rfl (one_of HT_.out (by kernel_rfl)) (by decide) (fun K hK => ?_)
      refine goes_ Try.func11 (by kernel_rfl) rfl #[] (by rfl) rfl rfl (by (try simp only [List.map_toArray, List.map_cons, List.map_nil]); first | done | rfl) ?_
      refine (awake_any _).mono ?_
      rintro e y1 ⟨rfl, h⟩
      have HC1 := Aside0.mk (keepS h HC.out)
      have HB1 := Aside0.mk (HB.out.trans (h.mono HB.out.size))
      have HK1 := Aside0.mk ((h.block D (lt_of_some HK.out)).trans HK.out)
      clear h
      refine ⟨_, rfl, ?_⟩
      refine hK.out _ _ HC1.out (fun hHeld => ?_)
      clear hK K
      refine norm_ (a' := ?_) ?_ ?_
      rotate_left
      · show Act.put _ (some 72) _ = _
        simp only [Act.put, List.setIfInBounds_toArray, List.set_cons_zero, List.set_cons_succ, i64_w, i32_w]
        rfl
      refine pure_ (i := 1) (N := some 73) (v := ?_) (a' := ?_) #[true, true, false, false, false, false, false, false, false, false, false, false, false, false, false, false, false, false, false, false, false, false, false, false, false, false, false, false, false] rfl rfl (any_of HT_.out (by kernel_rfl)) (fun _ _ _ h => h) (Or.inl ⟨by rfl, ?_⟩) ?_ ?_
      rotate_left
      · intro w'
        go_simp
        with_reducible rfl
      rotate_left
      · simp only [Act.put, List.setIfInBounds_toArray, List.set_cons_zero, List.set_cons_succ, i64_w, i32_w]
        rfl
      refine take_ (i := 2) (N := some 74) (v := ?_) (a' := ?_) #[true, true, true, false, false, false, false, false, false, false, false, false, false, false, false, false, false, false, false, false, false, false, false, false, false, false, false, false, false] rfl rfl (take_of HT_.out (by kernel_rfl)) (fun _ _ _ h => h) (Or.inl ⟨by rfl, ?_⟩) hHeld ?_ ?_
      rotate_left
      · rintro w' ⟨s0, s1, s2⟩
        go_simp
        with_reducible rfl
      rotate_left
      · simp only [Act.put, List.setIfInBounds_toArray, List.set_cons_zero, List.set_cons_succ, i64_w, i32_w]
        rfl
      refine pure_ (i := 3) (N := some 75) (v := ?_) (a' := ?_) #[true, true, true, true, false, false, false, false, false, false, false, false, false, false, false, false, false, false, false, false, false, false, false, false, false, false, false, false, false] rfl rfl (any_of HT_.out (by kernel_rfl)) (fun _ _ _ h => h) (Or.inl ⟨by rfl, ?_⟩) ?_ ?_
      rotate_left
      · intro w'
        go_simp
        with_reducible rfl
      rotate_left
      · simp only [Act.put, List.setIfInBounds_toArray, List.set_cons_zero, List.set_cons_succ, i64_w, i32_w]
        rfl
      refine pure_ (i := 4) (N := some 76) (v := ?_) (a' := ?_) #[true, true, true, true, true, false, false, false, false, false, false, false, false, false, false, false, false, false, false, false, false, false, false, false, false, false, false, false, false] rfl rfl (any_of HT_.out (by kernel_rfl)) (fun _ _ _ h => h) (Or.inl ⟨by rfl, ?_⟩) ?_ ?_
      rotate_left
      · intro w'
        go_simp
        with_reducible rfl
      rotate_left
      · simp only [Act.put, List.setIfInBounds_toArray, List.set_cons_zero, List.set_cons_succ, i64_w, i32_w]
        rfl
      refine pure_ (i := 5) (N := some 77) (v := ?_) (a' := ?_) #[true, true, true, true, true, true, false, false, false, false, false, false, false, false, false, false, false, false, false, false, false, false, false, false, false, false, false, false, false] rfl rfl (any_of HT_.out (by kernel_rfl)) (fun _ _ _ h => h) (Or.inl ⟨by rfl, ?_⟩) ?_ ?_
      rotate_left
      · intro w'
        go_simp
        with_reducible rfl
      rotate_left
      · simp only [Act.put, List.setIfInBounds_toArray, List.set_cons_zero, List.set_cons_succ, i64_w, i32_w]
        rfl
      refine pure_ (i := 6) (N := some 78) (v := ?_) (a' := ?_) #[true, true, true, true, true, true, true, false, false, false, false, false, false, false, false, false, false, false, false, false, false, false, false, false, false, false, false, false, false] rfl rfl (any_of HT_.out (by kernel_rfl)) (fun _ _ _ h => h) (Or.inl ⟨by rfl, ?_⟩) ?_ ?_
      rotate_left
      · intro w'
        go_simp
        with_reducible rfl
      rotate_left
      · simp only [Act.put, List.setIfInBounds_toArray, List.set_cons_zero, List.set_cons_succ, i64_w, i32_w]
        rfl
      refine pure_ (i := 7) (N := some 79) (v := ?_) (a' := ?_) #[true, true, true, true, true, true, true, true, false, false, false, false, false, false, false, false, false, false, false, false, false, false, false, false, false, false, false, false, false] rfl rfl (any_of HT_.out (by kernel_rfl)) (fun _ _ _ h => h) (Or.inl ⟨by rfl, ?_⟩) ?_ ?_
      rotate_left
      · intro w'
        go_simp
        with_reducible rfl
      rotate_left
      · simp only [Act.put, List.setIfInBounds_toArray, List.set_cons_zero, List.set_cons_succ, i64_w, i32_w]
        rfl
      refine pure_ (i := 8) (N := some 80) (v := ?_) (a' := ?_) #[true, true, true, true, true, true, true, true, true, false, false, false, false, false, false, false, false, false, false, false, false, false, false, false, false, false, false, false, false] rfl rfl (any_of HT_.out (by kernel_rfl)) (fun _ _ _ h => h) (Or.inl ⟨by rfl, ?_⟩) ?_ ?_
      rotate_left
      · intro w'
        go_simp
        with_reducible rfl
      rotate_left
      · simp only [Act.put, List.setIfInBounds_toArray, List.set_cons_zero, List.set_cons_succ, i64_w, i32_w]
        rfl
      refine pure_ (i := 9) (N := some 81) (v := ?_) (a' := ?_) #[true, true, true, true, true, true, true, true, true, true, false, false, false, false, false, false, false, false, false, false, false, false, false, false, false, false, false, false, false] rfl rfl (any_of HT_.out (by kernel_rfl)) (fun _ _ _ h => h) (Or.inl ⟨by rfl, ?_⟩) ?_ ?_
      rotate_left
      · intro w'
        go_simp
        with_reducible rfl
      rotate_left
      · simp only [Act.put, List.setIfInBounds_toArray, List.set_cons_zero, List.set_cons_succ, i64_w, i32_w]
        rfl
      refine take_ (i := 10) (N := some 82) (v := ?_) (a' := ?_) #[true, true, true, true, true, true, true, true, true, true, true, false, false, false, false, false, false, false, false, false, false, false, false, false, false, false, false, false, false] rfl rfl (take_of HT_.out (by kernel_rfl)) (fun _ _ _ h => h) (Or.inl ⟨by rfl, ?_⟩) hHeld ?_ ?_
      rotate_left
      · rintro w' ⟨s0, s1, s2⟩
        go_simp
        with_reducible rfl
      rotate_left
      · simp only [Act.put, List.setIfInBounds_toArray, List.set_cons_zero, List.set_cons_succ, i64_w, i32_w]
        rfl
      refine pure_ (i := 11) (N := some 83) (v := ?_) (a' := ?_) #[true, true, true, true, true, true, true, true, true, true, true, true, false, false, false, false, false, false, false, false, false, false, false, false, false, false, false, false, false] rfl rfl (any_of HT_.out (by kernel_rfl)) (fun _ _ _ h => h) (Or.inl ⟨by rfl, ?_⟩) ?_ ?_
      rotate_left
      · intro w'
        go_simp
        with_reducible rfl
      rotate_left
      · simp only [Act.put, List.setIfInBounds_toArray, List.set_cons_zero, List.set_cons_succ, i64_w, i32_w]
        rfl
      refine pure_ (i := 12) (N := some 84) (v := .string s) (a' := ?_) #[true, true, true, true, true, true, true, true, true, true, true, true, true, false, false, false, false, false, false, false, false, false, false, false, false, false, false, false, false] rfl rfl (any_of HT_.out (by kernel_rfl)) (fun _ _ _ h => h) (Or.inl ⟨by rfl, ?_⟩) ?_ ?_
      · intro w'
        go_simp
        try with_reducible rfl
      rotate_left
      · simp only [Act.put, List.setIfInBounds_toArray, List.set_cons_zero, List.set_cons_succ, i64_w, i32_w]
        rfl
      refine take_ (i := 13) (N := some 85) (v := ?_) (a' := ?_) #[true, true, true, true, true, true, true, true, true, true, true, true, true, true, false, false, false, false, false, false, false, false, false, false, false, false, false, false, false] rfl rfl (take_of HT_.out (by kernel_rfl)) (fun _ _ _ h => h) (Or.inl ⟨by rfl, ?_⟩) hHeld ?_ ?_
      rotate_left
      · rintro w' ⟨s0, s1, s2⟩
        go_simp
        with_reducible rfl
      rotate_left
      · simp only [Act.put, List.setIfInBounds_toArray, List.set_cons_zero, List.set_cons_succ, i64_w, i32_w]
        rfl
      refine pure_ (i := 14) (N := some 86) (v := ?_) (a' := ?_) #[true, true, true, true, true, true, true, true, true, true, true, true, true, true, true, false, false, false, false, false, false, false, false, false, false, false, false, false, false] rfl rfl (any_of HT_.out (by kernel_rfl)) (fun _ _ _ h => h) (Or.inl ⟨by rfl, ?_⟩) ?_ ?_
      rotate_left
      · intro w'
        go_simp
        with_reducible rfl
      rotate_left
      · simp only [Act.put, List.setIfInBounds_toArray, List.set_cons_zero, List.set_cons_succ, i64_w, i32_w]
        rfl
      refine pure_ (i := 15) (N := some 87) (v := ?_) (a' := ?_) #[true, true, true, true, true, true, true, true, true, true, true, true, true, true, true, true, false, false, false, false, false, false, false, false, false, false, false, false, false] rfl rfl (any_of HT_.out (by kernel_rfl)) (fun _ _ _ h => h) (Or.inl ⟨by rfl, ?_⟩) ?_ ?_
      rotate_left
      · intro w'
        go_simp
        with_reducible rfl
      rotate_left
      · simp only [Act.put, List.setIfInBounds_toArray, List.set_cons_zero, List.set_cons_succ, i64_w, i32_w]
        rfl
      refine pure_ (i := 16) (N := some 88) (v := ?_) (a' := ?_) #[true, true, true, true, true, true, true, true, true, true, true, true, true, true, true, true, true, false, false, false, false, false, false, false, false, false, false, false, false] rfl rfl (any_of HT_.out (by kernel_rfl)) (fun _ _ _ h => h) (Or.inl ⟨by rfl, ?_⟩) ?_ ?_
      rotate_left
      · intro w'
        go_simp
        with_reducible rfl
      rotate_left
      · simp only [Act.put, List.setIfInBounds_toArray, List.set_cons_zero, List.set_cons_succ, i64_w, i32_w]
        rfl
      refine take_ (i := 17) (N := some 89) (v := ?_) (a' := ?_) #[true, true, true, true, true, true, true, true, true, true, true, true, true, true, true, true, true, true, false, false, false, false, false, false, false, false, false, false, false] rfl rfl (take_of HT_.out (by kernel_rfl)) (fun _ _ _ h => h) (Or.inl ⟨by rfl, ?_⟩) hHeld ?_ ?_
      rotate_left
      · rintro w' ⟨s0, s1, s2⟩
        go_simp
        with_reducible rfl
      rotate_left
      · simp only [Act.put, List.setIfInBounds_toArray, List.set_cons_zero, List.set_cons_succ, i64_w, i32_w]
        rfl
      refine take_ (i := 18) (N := some 90) (v := ?_) (a' := ?_) #[true, true, true, true, true, true, true, true, true, true, true, true, true, true, true, true, true, true, true, false, false, false, false, false, false, false, false, false, false] rfl rfl (take_of HT_.out (by kernel_rfl)) (fun _ _ _ h => h) (Or.inl ⟨by rfl, ?_⟩) hHeld ?_ ?_
      rotate_left
      · rintro w' ⟨s0, s1, s2⟩
        go_simp
        with_reducible rfl
      rotate_left
      · simp only [Act.put, List.setIfInBounds_toArray, List.set_cons_zero, List.set_cons_succ, i64_w, i32_w]
        rfl
      refine pure_ (i := 19) (N := some 91) (v := ?_) (a' := ?_) #[true, true, true, true, true, true, true, true, true, true, true, true, true, true, true, true, true, true, true, true, false, false, false, false, false, false, false, false, false] rfl rfl (any_of HT_.out (by kernel_rfl)) (fun _ _ _ h => h) (Or.inl ⟨by rfl, ?_⟩) ?_ ?_
      rotate_left
      · intro w'
        go_simp
        with_reducible rfl
      rotate_left
      · simp only [Act.put, List.setIfInBounds_toArray, List.set_cons_zero, List.set_cons_succ, i64_w, i32_w]
        rfl
      refine pure_ (i := 20) (N := some 92) (v := ?_) (a' := ?_) #[true, true, true, true, true, true, true, true, true, true, true, true, true, true, true, true, true, true, true, true, true, false, false, false, false, false, false, false, false] rfl rfl (any_of HT_.out (by kernel_rfl)) (fun _ _ _ h => h) (Or.inl ⟨by rfl, ?_⟩) ?_ ?_
      rotate_left
      · intro w'
        go_simp
        with_reducible rfl
      rotate_left
      · simp only [Act.put, List.setIfInBounds_toArray, List.set_cons_zero, List.set_cons_succ, i64_w, i32_w]
        rfl
      refine pure_ (i := 21) (N := some 93) (v := ?_) (a' := ?_) #[true, true, true, true, true, true, true, true, true, true, true, true, true, true, true, true, true, true, true, true, true, true, false, false, false, false, false, false, false] rfl rfl (any_of HT_.out (by kernel_rfl)) (fun _ _ _ h => h) (Or.inl ⟨by rfl, ?_⟩) ?_ ?_
      rotate_left
      · intro w'
        go_simp
        with_reducible rfl
      rotate_left
      · simp only [Act.put, List.setIfInBounds_toArray, List.set_cons_zero, List.set_cons_succ, i64_w, i32_w]
        rfl
      refine pure_ (i := 22) (N := some 94) (v := ?_) (a' := ?_) #[true, true, true, true, true, true, true, true, true, true, true, true, true, true, true, true, true, true, true, true, true, true, true, false, false, false, false, false, false] rfl rfl (any_of HT_.out (by kernel_rfl)) (fun _ _ _ h => h) (Or.inl ⟨by rfl, ?_⟩) ?_ ?_
      rotate_left
      · intro w'
        go_simp
        with_reducible rfl
      rotate_left
      · simp only [Act.put, List.setIfInBounds_toArray, List.set_cons_zero, List.set_cons_succ, i64_w, i32_w]
        rfl
      refine take_ (i := 23) (N := some 95) (v := ?_) (a' := ?_) #[true, true, true, true, true, true, true, true, true, true, true, true, true, true, true, true, true, true, true, true, true, true, true, true, false, false, false, false, false] rfl rfl (take_of HT_.out (by kernel_rfl)) (fun _ _ _ h => h) (Or.inl ⟨by rfl, ?_⟩) hHeld ?_ ?_
      rotate_left
      · rintro w' ⟨s0, s1, s2⟩
        go_simp
        with_reducible rfl
      rotate_left
      · simp only [Act.put, List.setIfInBounds_toArray, List.set_cons_zero, List.set_cons_succ, i64_w, i32_w]
        rfl
      refine pure_ (i := 24) (N := some 96) (v := ?_) (a' := ?_) #[true, true, true, true, true, true, true, true, true, true, true, true, true, true, true, true, true, true, true, true, true, true, true, true, true, false, false, false, false] rfl rfl (any_of HT_.out (by kernel_rfl)) (fun _ _ _ h => h) (Or.inl ⟨by rfl, ?_⟩) ?_ ?_
      rotate_left
      · intro w'
        go_simp
        with_reducible rfl
      rotate_left
      · simp only [Act.put, List.setIfInBounds_toArray, List.set_cons_zero, List.set_cons_succ, i64_w, i32_w]
        rfl
      refine pure_ (i := 25) (N := some 97) (v := ?_) (a' := ?_) #[true, true, true, true, true, true, true, true, true, true, true, true, true, true, true, true, true, true, true, true, true, true, true, true, true, true, false, false, false] rfl rfl (any_of HT_.out (by kernel_rfl)) (fun _ _ _ h => h) (Or.inl ⟨by rfl, ?_⟩) ?_ ?_
      rotate_left
      · intro w'
        go_simp
        with_reducible rfl
      rotate_left
      · simp only [Act.put, List.setIfInBounds_toArray, List.set_cons_zero, List.set_cons_succ, i64_w, i32_w]
        rfl
      refine pure_ (i := 26) (N := some 98) (v := ?_) (a' := ?_) #[true, true, true, true, true, true, true, true, true, true, true, true, true, true, true, true, true, true, true, true, true, true, true, true, true, true, true, false, false] rfl rfl (any_of HT_.out (by kernel_rfl)) (fun _ _ _ h => h) (Or.inl ⟨by rfl, ?_⟩) ?_ ?_
      rotate_left
      · intro w'
        go_simp
        with_reducible rfl
      rotate_left
      · simp only [Act.put, List.setIfInBounds_toArray, List.set_cons_zero, List.set_cons_succ, i64_w, i32_w]
        rfl
      refine pure_ (i := 27) (N := some 99) (v := ?_) (a' := ?_) #[true, true, true, true, true, true, true, true, true, true, true, true, true, true, true, true, true, true, true, true, true, true, true, true, true, true, true, true, false] rfl rfl (any_of HT_.out (by kernel_rfl)) (fun _ _ _ h => h) (Or.inl ⟨by rfl, ?_⟩) ?_ ?_
      rotate_left
      · intro w'
        go_simp
        with_reducible rfl
      rotate_left
      · simp only [Act.put, List.setIfInBounds_toArray, List.set_cons_zero, List.set_cons_succ, i64_w, i32_w]
        rfl
      refine pure_ (i := 28) (N := some 6) (v := ?_) (a' := ?_) #[true, true, true, true, true, true, true, true, true, true, true, true, true, true, true, true, true, true, true, true, true, true, true, true, true, true, true, true, true] rfl rfl (any_of HT_.out (by kernel_rfl)) (fun _ _ _ h => h) (Or.inl ⟨by rfl, ?_⟩) ?_ ?_
      rotate_left
      · intro w'
        go_simp
        with_reducible rfl
      rotate_left
      · simp only [Act.put, List.setIfInBounds_toArray, List.set_cons_zero, List.set_cons_succ, i64_w, i32_w]
        rfl
      refine done_ (done_of HT_.out (by kernel_rfl)) ?_
      refine hKz _ _ ?_
      gi_wp2
      refine ⟨by simp, .inl ⟨_, _, rfl, run_takeDeferred HK1.out, ?_⟩⟩
      refine ⟨_, results_tmp rfl _ _ _, rfl, ?_⟩
      exact HB1.out.trans (belowK_b (w := w) (Nat.le_refl _) y1 D _ _ (by have := HD.out; have := D8.out.b.size; omega) HK1.out rfl rfl)
  refine wpIn_rangeFunc_ownF (α := Lf) rfl (by decide) (gf := 32) (lb := #[.pointer (some ⟨bx, 0, none⟩)]) rfl trivial (enters_of Try.func32 (by kernel_rfl) rfl)
    (chunks_stops o p bx X8 K3.out C8.out z8.out D8.out.c.at_) KpN.trans (KpN.put (w := X8)) (Below.refl _ _) (fun _ => rfl)
    (fun pre W => Jc w st sB nB (cat (lf pre)) pre.length W ∧ Below w.heap.size w W)
    (fun c pre W => c = .exit 0 ∧ ∃ (pr : List Lf) (x : Lf), pre = pr ++ [x] ∧ Jc w st sB nB (cat (lf pr)) pr.length W ∧ (pr.length : Int) = QQ st ∧ Below w.heap.size w W)
    (OwnFrom.and ((Jc.own w st sB nB _ _).from _) (ownFrom_below (Nat.le_refl _) D8.out.b.size))
    ?ownx
    ⟨J8.out, D8.out.b⟩
    (fun x => { tmps := #[.string sa, .string sb, .int .u8 st, undef, undef, .pointer (some ⟨w.heap.size, 0, none⟩), .bool false, .pointer (some ⟨rB, 0, none⟩), .string (sa ++ sb), .bool true, .string (sa ++ sb), .bool true, .pointer (some ⟨sB, 0, none⟩), .pointer (some ⟨nB, 0, none⟩), .string x.1, .string sa, .int .i64 sa.size, .bool false, .bool false, .string sb, .int .i64 sb.size, .bool false, .bool false, undef, .string sa, .agg #[.pointer p1], .string sb, .agg #[.pointer p2], .agg #[.pointer p], .tuple #[.string (sa ++ sb), .bool true], .agg #[.pointer p], .tuple #[.string (sa ++ sb), .bool true], .string (sa ++ sb), .bool true, .tuple #[.string (sa ++ sb), .bool true], .agg #[.pointer p], .tuple #[.string (sa ++ sb), .bool true], .string (sa ++ sb), .bool true, .bool true, .bool false, .bool false, .bool true, .bool false, .bool false, .bool false, .string (sa ++ sb), .string sa, .string sb, .string (sa ++ sb), .bool false, .bool false, .bool false, .string (sa ++ sb), .string sa, .string sb, .string (sa ++ sb), .bool false, .bool false, .agg #[.pointer p], .func (.func 32) #[] #[.pointer (some ⟨bx, 0, none⟩)], .string x.1, undef, undef, undef, undef, undef, undef, undef, undef, undef, undef, undef, undef, undef, undef, undef, undef, undef, undef, undef, undef, undef, undef, undef, undef, undef, undef, undef, undef, undef, undef, undef, undef, undef, undef, undef, undef, undef, undef], defers := [] }) ?assign ?body ?done ?stop
  case ownx =>
    rintro c s W W' row ⟨rfl, pr, x, rfl, hj, hq, hb⟩ hg hr
    exact ⟨rfl, pr, x, rfl, ((Jc.own w st sB nB (fun _ : Unit => cat (lf pr)) (fun _ => pr.length)).from _) () W W' row hj hg hr, hq, (ownFrom_below (β := Unit) (Nat.le_refl _) D8.out.b.size) () W W' row hb hg hr⟩
  case assign =>
    intro l x W K hK
    gi_wp2
    exact hK
  case body =>
    rintro l pre x W ⟨hT, hB⟩ hN
    have hl := cat_lf_size pre
    have hn := lvs_len K3.out
    have hn2 := Z3.out
    have HS := Aside0.mk (show cat (lf (pre ++ [x])) = cat (lf pre) ++ x.1 by rw [lf_snoc, cat_snoc])
    have HLn := Aside0.mk (show (pre ++ [x]).length = pre.length + 1 by simp)
    have HT := Aside0.mk hT
    have HB := Aside0.mk hB
    obtain ⟨s, hs0⟩ : ∃ s, cat (lf pre) = s := ⟨_, rfl⟩
    rw [hs0] at hl hT
    have x1 := x.2.1
    have x2 := x.2.2
    obtain ⟨z, hz⟩ : ∃ z, x.1 = z := ⟨_, rfl⟩
    rw [hz] at x1 x2 HS ⊢
    obtain ⟨n, hn0⟩ : ∃ n, pre.length = n := ⟨_, rfl⟩
    rw [hn0] at hl hT hN HLn
    have c1 : W.cell? ⟨sB, 0, none⟩ = some (.string s) := (blk_cell hT.hs 0).trans rfl
    have c2 : W.cell? ⟨nB, 0, none⟩ = some (.int .i64 n) := (blk_cell hT.hn 0).trans rfl
    have c3 : W.cell? ⟨w.heap.size, 0, none⟩ = some (.int .u8 st) := (blk_cell hT.hk 0).trans rfl
    have f1 : W.frozen? ⟨sB, 0, none⟩ = false := blk_frozen hT.hs 0
    have f2 : W.frozen? ⟨nB, 0, none⟩ = false := blk_frozen hT.hn 0
    have s1 : (9223372036854775807 < s.size + z.size) = False := eq_false (by omega)
    have H0 := Aside0.mk hs0
    have N0 := Aside0.mk hn0
    have NL : Aside0 (n ≤ 2000) := Aside0.mk (by omega)
    have hne := blk_ne hT.hs hT.hn (by decide)
    have wn : IntKind.i64.wrap ((n : Int) + 1) = (n : Int) + 1 := by rw [i64_w]; unfold wrap64; omega
    clear hT hB hs0 hl hN hn hn2 x1 x2 hz hn0
    gi_wp2
    · rename_i hq
      refine ⟨⟨Nat.le_refl _, fun _ _ h _ => h⟩, rfl, pre, ⟨x.1, x.2, rfl⟩, HT.out, ?_, HB.out⟩
      rw [N0.out]
      exact eq_of_beq hq
    · have hT := HT.out
      rw [H0.out, N0.out] at hT
      have hn1 := blk_ne hT.hk hT.hs (by decide)
      have hn2 := blk_ne hT.hk hT.hn (by decide)
      refine ⟨(KeepsOthers.setCell _ _ _).trans (KeepsOthers.setCell _ _ _), ?_, ⟨?_, ?_, ?_⟩, (HB.out.setCell (p := ⟨sB, 0, none⟩) HsB.out _).setCell (p := ⟨nB, 0, none⟩) HnB.out _⟩
      · intro q cs hq
        exact blk_far (blk_far hq (p := ⟨sB, 0, none⟩) (blk_ne hq hT.hs (by decide)) _) (p := ⟨nB, 0, none⟩) (blk_ne hq hT.hn (by decide)) _
      · rw [HS.out, H0.out]
        exact blk_far (blk_put hT.hs 0 _ rfl) (p := ⟨nB, 0, none⟩) hne _
      · rw [HLn.out]
        exact blk_put (blk_far hT.hn (p := ⟨sB, 0, none⟩) (Ne.symm hne) _) 0 _ rfl
      · exact blk_far (blk_far hT.hk (p := ⟨sB, 0, none⟩) hn1 _) (p := ⟨nB, 0, none⟩) hn2 _
  case done =>
    rintro D ys W hD hys ⟨hj, hb⟩ hKd
    have e : cat (lf ys) = sa ++ sb := by rw [hys, cat_lvs, T3.out]
    rw [e] at hj
    exact rest D W _ _ hD hj hb (Nat.le_refl _) (ext_all _ (Nat.le_refl _)) (.inr rfl) hKd
  case stop =>
    rintro D _ _ W hD hp ⟨rfl, pr, x, rfl, hj, hq, hb⟩ hKd
    have e : ∃ tl, sa ++ sb = cat (lf pr) ++ tl := by
      obtain ⟨tl, htl⟩ := hp
      refine ⟨x.1 ++ cat tl, ?_⟩
      rw [← T3.out, ← cat_lvs, ← htl, cat_app, lf_snoc, cat_snoc, app_assoc]
    obtain ⟨tl, htl0⟩ := e
    have HTL := Aside0.mk htl0
    clear htl0
    gi_wp2
    have htl := HTL.out
    exact rest D W _ _ hD hj hb (by rw [htl, ByteArray.size_append]; omega) (by rw [htl, ext_left _ _ (Nat.le_refl _), ext_all _ (Nat.le_refl _)]) (.inl hq) hKd
end Go.Proofs.Ytmoceagbmgoijaa.Rop
