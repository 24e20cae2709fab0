/- The walks over the package rope: the methods. -/
import Derived.Test.YtmoceagbmgoijaaProg
import Derived.Test.YtmoceagbmgoijaaWMore
import Derived.Test.YtmoceagbmgoijaaWGuard
import Derived.Test.YtmoceagbmgoijaaWLast
import Derived.Test.YtmoceagbmgoijaaWTab
import Derived.Test.YtmoceagbmgoijaaRnd
import Derived.Test.YtmoceagbmgoijaaTre
import Derived.Test.YtmoceagbmgoijaaShf
import Derived.Test.YtmoceagbmgoijaaBld
import Derived.BigCall
import Derived.StillTailTactics
import Derived.WalkKit
import Derived.Outline
import Derived.Test.YtmoceagbmgoijaaRoq
namespace Go.Proofs.Ytmoceagbmgoijaa.Rop
open Go.RowKit Go.Proofs.YtmoceagbmgoijaaW.PrintWords Go.Proofs.YtmoceagbmgoijaaW.PrintLast Go.Proofs.YtmoceagbmgoijaaW.PrintMore Go.Proofs.Ytmoceagbmgoijaa.Tre
attribute [local go_sem] max2_int min2_int max_two min_two max_three min_three max_four min_four
set_option linter.unusedVariables false
set_option linter.unusedSimpArgs false

/-- what a method leaves that hands back a rope -/
def RTree (s : ByteArray) (w : World) (e : Ending) (w' : World) : Prop := ∃ v o, e = .returned (.agg #[v]) ∧ At w' v o ∧ txt o = s ∧ Ok o ∧ Below w.heap.size w w'
theorem At.ptr {w : World} {v : Value} {o : Option T} (h : At w v o) : ∃ p, v = .pointer p := by
  cases o with
  | none => exact ⟨_, h⟩
  | some t => obtain ⟨b, rfl, _⟩ := h; exact ⟨_, rfl⟩
theorem bal (w : World) (o : Obj) : Below w.heap.size w (w.alloc o) := (Below.refl _ w).alloc (Nat.le_refl _) _
theorem hsz (w : World) (o : Obj) : (w.alloc o).heap.size = w.heap.size + 1 := by simp
theorem heap3 (w : World) (o1 o2 o3 : Obj) : (((w.alloc o1).alloc o2).alloc o3).heap[w.heap.size]? = some o1 ∧ (((w.alloc o1).alloc o2).alloc o3).heap[w.heap.size + 1]? = some o2 ∧ (((w.alloc o1).alloc o2).alloc o3).heap[w.heap.size + 1 + 1]? = some o3 ∧ Below w.heap.size w (((w.alloc o1).alloc o2).alloc o3) := by
  have z1 := hsz w o1
  have z2 := hsz (w.alloc o1) o2
  refine ⟨?_, ?_, ?_, ((bal w _).alloc (by omega) _).alloc (by omega) _⟩
  · rw [Below.heap_alloc _ _ _ (by omega), Below.heap_alloc _ _ _ (by omega)]; exact World.alloc_heap_new w o1
  · rw [Below.heap_alloc _ _ _ (by omega)]; have := World.alloc_heap_new (w.alloc o1) o2; rwa [z1] at this
  · have := World.alloc_heap_new ((w.alloc o1).alloc o2) o3; rwa [z2, z1] at this
set_option maxHeartbeats 2000000 in
set_option maxRecDepth 100000 in
theorem new_any (s : ByteArray) (hs : s.size ≤ 100000) (w : World) : Calls Try.prog 13 #[.string s] w fun e w' => RTree s w e w' := by
  go_enter Try.func13, Try.ntmps13
  go_wp2_with (go_at_call 28; refine (build_any s hs _).mono ?_; rintro e w1 ⟨v, o, rfl, h1, h2, h3, _, h5⟩; obtain ⟨p, rfl⟩ := h1.ptr; have hk := (h5.block w.heap.size (by rw [hsz]; omega)).trans (World.alloc_heap_new w _); have hc := (blk_cell hk 0).trans rfl; have hf := fun q => blk_frozen hk q; replace h2 := Aside0.mk h2)
  go_wp2
  refine bodyPost_ret (results_cell_row rfl _ _ w.heap.size 26 #[.pointer p] (0, 0) _ rfl (blk_put (cs := #[.pointer none]) hk 0 _ rfl) Try.underlying26 rfl (by kernel_rfl)) rfl ?_
  exact ⟨_, o, rfl, h1.set hk (by decide) 0 _, h2.out, h3, ((bal w _).trans (h5.mono (by rw [hsz]; omega))).setCell (p := ⟨w.heap.size, 0, none⟩) (Nat.le_refl _) _⟩
set_option maxHeartbeats 2000000 in
set_option maxRecDepth 100000 in
theorem len_any (o : Option T) (v : Value) (w : World) (h : At w v o) : Calls Try.prog 23 #[.agg #[v]] w fun e w' => e = .returned (.int .i64 (siz o)) ∧ Below w.heap.size w w' := by
  cases o with
  | none =>
    obtain rfl : v = .pointer none := h
    go_enter Try.func23, Try.ntmps23
    go_wp2
    go_ret
    exact ⟨rfl, bal _ _⟩
  | some t =>
    obtain ⟨b, rfl, ht⟩ := h
    obtain ⟨vl, vr, hk⟩ := ht.blk
    have c3 : (w.alloc (.cells #[.pointer (some ⟨b, 0, none⟩)] 26)).cell? ⟨b, 3, none⟩ = some (.int .i64 t.size) := cellN (bal w _) hk 3 rfl
    clear hk
    go_enter Try.func23, Try.ntmps23
    go_wp2
    go_ret
    exact ⟨rfl, bal _ _⟩
set_option maxHeartbeats 2000000 in
set_option maxRecDepth 100000 in
theorem height_any (o : Option T) (v : Value) (w : World) (h : At w v o) : Calls Try.prog 24 #[.agg #[v]] w fun e w' => e = .returned (.int .i64 (hgt o)) ∧ Below w.heap.size w w' := by
  cases o with
  | none =>
    obtain rfl : v = .pointer none := h
    go_enter Try.func24, Try.ntmps24
    go_wp2
    go_ret
    exact ⟨rfl, bal _ _⟩
  | some t =>
    obtain ⟨b, rfl, ht⟩ := h
    obtain ⟨vl, vr, hk⟩ := ht.blk
    have c3 : (w.alloc (.cells #[.pointer (some ⟨b, 0, none⟩)] 26)).cell? ⟨b, 4, none⟩ = some (.int .i64 t.height) := cellN (bal w _) hk 4 rfl
    clear hk
    go_enter Try.func24, Try.ntmps24
    go_wp2
    go_ret
    exact ⟨rfl, bal _ _⟩
set_option maxHeartbeats 2000000 in
set_option maxRecDepth 100000 in
theorem string_any (o : Option T) (v : Value) (w : World) (h : At w v o) (hs : siz o ≤ 140737488355328) : Calls Try.prog 22 #[.agg #[v]] w fun e w' => e = .returned (.string (txt o)) ∧ Below w.heap.size w w' := by
  obtain ⟨p, rfl⟩ := h.ptr
  go_enter Try.func22, Try.ntmps22
  go_wp2_with (go_at_call 31; refine (text_any o _ _ (h.alloc _) hs).mono ?_; rintro e w1 ⟨rfl, h1⟩)
  go_ret
  exact ⟨rfl, (bal w _).trans (h1.mono (by rw [hsz]; omega))⟩
set_option maxHeartbeats 4000000 in
set_option maxRecDepth 100000 in
theorem concat_any (o1 o2 : Option T) (v1 v2 : Value) (w : World) (a1 : At w v1 o1) (k1 : Ok o1) (a2 : At w v2 o2) (k2 : Ok o2) (hs : siz o1 + siz o2 ≤ 100000) :
    Calls Try.prog 14 #[.agg #[v1], .agg #[v2]] w fun e w' => RTree (txt o1 ++ txt o2) w e w' := by
  obtain ⟨p1, rfl⟩ := a1.ptr
  obtain ⟨p2, rfl⟩ := a2.ptr
  obtain ⟨g0, g1, g2, hb⟩ := heap3 w (.cells #[.pointer p1] 26) (.cells #[.pointer p2] 26) (.cells #[.pointer none] 26)
  obtain ⟨W, hW⟩ : ∃ W, ((w.alloc (.cells #[.pointer p1] 26)).alloc (.cells #[.pointer p2] 26)).alloc (.cells #[.pointer none] 26) = W := ⟨_, rfl⟩
  rw [hW] at g0 g1 g2 hb
  have c0 : W.cell? ⟨w.heap.size, 0, none⟩ = some (.pointer p1) := (blk_cell g0 0).trans rfl
  have c1 : W.cell? ⟨w.heap.size + 1, 0, none⟩ = some (.pointer p2) := (blk_cell g1 0).trans rfl
  have J := Aside0.mk (join_ok o1 o2 _ _ W (a1.below hb) k1 (a2.below hb) k2 hs)
  have G2 := Aside0.mk g2
  have HB := Aside0.mk hb
  clear g0 g1 g2 hb
  go_enter Try.func14, Try.ntmps14
  go_wp2_with (go_at_call 29; refine J.out.mono ?_; rintro e w1 ⟨v, o, rfl, h1, h2, h3, h5⟩; obtain ⟨p, rfl⟩ := h1.ptr; have hk := (h5.block (w.heap.size + 1 + 1) (lt_of_some G2.out)).trans G2.out; have hc := (blk_cell hk 0).trans rfl; have hf := fun q => blk_frozen hk q; replace h2 := Aside0.mk h2)
  go_wp2
  refine bodyPost_ret (results_cell_row rfl _ _ (w.heap.size + 1 + 1) 26 #[.pointer p] (0, 0) _ rfl (blk_put (cs := #[.pointer none]) hk 0 _ rfl) Try.underlying26 rfl (by kernel_rfl)) rfl ?_
  exact ⟨_, o, rfl, h1.set hk (by decide) 0 _, h2.out, h3, (HB.out.trans (h5.mono HB.out.size)).setCell (p := ⟨w.heap.size + 1 + 1, 0, none⟩) (by show w.heap.size ≤ w.heap.size + 1 + 1; omega) _⟩
theorem At.drewB {w : World} {v : Value} {o : Option T} (h : At w v o) (W : World) (hb : Below w.heap.size w W) : At W v o := h.below hb
set_option maxHeartbeats 2000000 in
set_option maxRecDepth 100000 in
theorem slice_none (f z : Nat) (hz : z ≤ f) (v : Value) (w : World) : Calls Try.prog 30 #[v, .int .i64 f, .int .i64 z] w fun e w' => Tree ⟨#[]⟩ w e w' := by
  have d1 : decide ((z : Int) ≤ (f : Int)) = true := decide_eq_true (by omega)
  have d2 : ((z : Int) ≤ (f : Int)) = True := eq_true (by omega)
  go_enter Try.func30, Try.ntmps30
  go_wp2
  go_ret
  exact ⟨_, none, rfl, rfl, rfl, trivial, Below.refl _ _⟩
/-- slice at whatever root -/
theorem slice_opt (o : Option T) (v : Value) (w : World) (a : At w v o) (k : Ok o) (hs : siz o ≤ 100000) (f z : Nat) (hz : z ≤ siz o) :
    Calls Try.prog 30 #[v, .int .i64 f, .int .i64 z] w fun e w' => Tree ((txt o).extract f z) w e w' := by
  cases o with
  | none =>
    have hz : z ≤ f := by change z ≤ 0 at hz; omega
    rw [ext_nil _ hz]
    exact slice_none f z hz v w
  | some t =>
    obtain ⟨b, rfl, ht⟩ := a
    exact slice_any t b k hs f z w ht hz
set_option maxHeartbeats 4000000 in
set_option maxRecDepth 100000 in
theorem slicem_bad (o : Option T) (v : Value) (w : World) (a : At w v o) (f z : Int) (h : ¬ (0 ≤ f ∧ f ≤ z ∧ z ≤ siz o)) :
    Calls Try.prog 17 #[.agg #[v], .int .i64 f, .int .i64 z] w fun e w' => e = .returned (.tuple #[.string ⟨#[]⟩, .int .i64 2]) ∧ Below w.heap.size w w' := by
  obtain ⟨p, rfl⟩ := a.ptr
  have L := Aside0.mk (len_any o _ _ (a.alloc (.cells #[.pointer p] 26)))
  rcases (by omega : f < 0 ∨ (¬ f < 0 ∧ z < f) ∨ (¬ f < 0 ∧ ¬ z < f ∧ (siz o : Int) < z)) with c | ⟨c, d⟩ | ⟨c, d, e⟩
  · have c1 : decide (f < 0) = true := decide_eq_true c
    clear h
    go_enter Try.func17, Try.ntmps17
    go_wp2
    go_ret2
    exact ⟨rfl, bal _ _⟩
  · have c1 : decide (f < 0) = false := decide_eq_false c
    have c2 : decide (z < f) = true := decide_eq_true d
    clear h
    go_enter Try.func17, Try.ntmps17
    go_wp2
    go_ret2
    exact ⟨rfl, bal _ _⟩
  · have c1 : decide (f < 0) = false := decide_eq_false c
    have c2 : decide (z < f) = false := decide_eq_false d
    have c3 : decide ((siz o : Int) < z) = true := decide_eq_true e
    clear h
    go_enter Try.func17, Try.ntmps17
    go_wp2_with (go_at_call 23; refine L.out.mono ?_; rintro e w1 ⟨rfl, h1⟩)
    go_wp2
    go_ret2
    exact ⟨rfl, (bal _ _).trans (h1.mono (by rw [hsz]; omega))⟩
set_option maxHeartbeats 4000000 in
set_option maxRecDepth 100000 in
theorem slicem_good (o : Option T) (v : Value) (w : World) (a : At w v o) (k : Ok o) (hs : siz o ≤ 100000) (f z : Nat) (h1 : f ≤ z) (h2 : z ≤ siz o) :
    Calls Try.prog 17 #[.agg #[v], .int .i64 f, .int .i64 z] w fun e w' => e = .returned (.tuple #[.string ((txt o).extract f z), .int .i64 0]) ∧ Below w.heap.size w w' := by
  obtain ⟨p, rfl⟩ := a.ptr
  have hg := World.alloc_heap_new w (.cells #[.pointer p] 26)
  have hb := bal w (.cells #[.pointer p] 26)
  have hz := hsz w (.cells #[.pointer p] 26)
  have L := Aside0.mk (len_any o _ _ (a.alloc (.cells #[.pointer p] 26)))
  obtain ⟨W, hW⟩ : ∃ W, w.alloc (.cells #[.pointer p] 26) = W := ⟨_, rfl⟩
  rw [hW] at hg hb L hz
  have G := Aside0.mk hg
  have HB := Aside0.mk hb
  have c1 : decide ((f : Int) < 0) = false := decide_eq_false (by omega)
  have c1x : ((f : Int) < 0) = False := eq_false (by omega)
  have c2 : decide ((z : Int) < (f : Int)) = false := decide_eq_false (by omega)
  have c2x : ((z : Int) < (f : Int)) = False := eq_false (by omega)
  have c2y : (z < f) = False := eq_false (by omega)
  have c3 : decide ((siz o : Int) < (z : Int)) = false := decide_eq_false (by omega)
  have c3x : ((siz o : Int) < (z : Int)) = False := eq_false (by omega)
  have c3y : (siz o < z) = False := eq_false (by omega)
  have d0 : W.cell? ⟨w.heap.size, 0, none⟩ = some (.pointer p) := (blk_cell hg 0).trans rfl
  have HZ := Aside0.mk hz
  clear hg hb hz
  have H2 := Aside0.mk h2
  clear h1 h2
  go_enter Try.func17, Try.ntmps17
  go_wp2_with (go_at_call 23; refine L.out.mono ?_; rintro e w1 ⟨rfl, h1⟩; have g1 := (h1.block w.heap.size (lt_of_some G.out)).trans G.out; have d1 := (blk_cell g1 0).trans rfl; clear g1)
  have hb1 : Below w.heap.size w w1 := HB.out.trans (h1.mono (by rw [HZ.out]; omega))
  go_wp2_with (go_at_call 30; refine (slice_opt o _ w1 (a.below hb1) k hs f z H2.out).mono ?_; rintro e w2 ⟨v2, o2, rfl, h3, h4, h5, h6⟩; replace h4 := Aside0.mk h4)
  have hb2 : Below w.heap.size w w2 := hb1.trans (h6.mono hb1.size)
  have s2 : siz o2 ≤ 140737488355328 := by have := txt_size o2; rw [h4.out, ByteArray.size_extract, txt_size] at this; omega
  go_wp2_with (go_at_call 31; refine (text_any o2 _ w2 h3 s2).mono ?_; rw [h4.out]; rintro e w3 ⟨rfl, h7⟩)
  go_wp2
  go_ret2
  exact ⟨rfl, hb2.trans (h7.mono hb2.size)⟩
set_option maxHeartbeats 8000000 in
set_option maxRecDepth 100000 in
theorem replace_bad (o : Option T) (v : Value) (w : World) (a : At w v o) (hs : siz o ≤ 50000) (A D : Int) (ins : ByteArray) (h : ¬ (0 ≤ A ∧ 0 ≤ D ∧ A ≤ siz o ∧ D ≤ siz o - A)) :
    Calls Try.prog 15 #[.agg #[v], .agg #[.int .i64 A, .int .i64 D, .string ins]] w fun e w' => e = .returned (.tuple #[.agg #[.pointer none], .int .i64 2]) ∧ Below w.heap.size w w' := by
  obtain ⟨p, rfl⟩ := a.ptr
  obtain ⟨g0, g1, g2, hb⟩ := heap3 w (.cells #[.pointer p] 26) (.cells #[.int .i64 A, .int .i64 D, .string ins] 32) (.cells #[.pointer none] 26)
  obtain ⟨W, hW⟩ : ∃ W, ((w.alloc (.cells #[.pointer p] 26)).alloc (.cells #[.int .i64 A, .int .i64 D, .string ins] 32)).alloc (.cells #[.pointer none] 26) = W := ⟨_, rfl⟩
  rw [hW] at g0 g1 g2 hb
  have c0 : W.cell? ⟨w.heap.size, 0, none⟩ = some (.pointer p) := (blk_cell g0 0).trans rfl
  have AW := Aside0.mk (a.below hb)
  have L := Aside0.mk (len_any o _ W (a.below hb))
  have G0 := Aside0.mk g0
  have G1 := Aside0.mk g1
  have G2 := Aside0.mk g2
  have HB := Aside0.mk hb
  clear g0 g1 g2 hb
  have rest : ∀ (w1 : World), Below W.heap.size W w1 → Aside0 (w1.cell? ⟨w.heap.size, 0, none⟩ = some (.pointer p) ∧ w1.cell? ⟨w.heap.size + 1, 0, none⟩ = some (.int .i64 A) ∧ w1.cell? ⟨w.heap.size + 1, 1, none⟩ = some (.int .i64 D) ∧ w1.cell? ⟨w.heap.size + 1, 2, none⟩ = some (.string ins) ∧ w1.heap[w.heap.size + 1 + 1]? = some (.cells #[.pointer none] 26 (0, 0))) := fun w1 h1 =>
    Aside0.mk ⟨cellN h1 G0.out 0 rfl, cellN h1 G1.out 0 rfl, cellN h1 G1.out 1 rfl, cellN h1 G1.out 2 rfl, (h1.block _ (lt_of_some G2.out)).trans G2.out⟩
  have REST := Aside0.mk rest
  clear rest
  rcases (by omega : A < 0 ∨ (¬ A < 0 ∧ D < 0) ∨ (¬ A < 0 ∧ ¬ D < 0 ∧ (siz o : Int) < A) ∨ (¬ A < 0 ∧ ¬ D < 0 ∧ ¬ (siz o : Int) < A ∧ (siz o : Int) - A < D)) with c | ⟨c, d⟩ | ⟨c, d, e⟩ | ⟨c, d, e, f⟩
  · have c1 : decide (A < 0) = true := decide_eq_true c
    clear h
    go_enter Try.func15, Try.ntmps15
    go_wp2_with (go_at_call 23; refine L.out.mono ?_; rintro e w1 ⟨rfl, h1⟩; obtain ⟨⟨d0, d1, d2, d3, d4⟩⟩ := REST.out w1 h1; have d5 := (blk_cell d4 0).trans rfl; have d6 := fun q => blk_frozen d4 q)
    go_wp2
    refine bodyPost_ret (results_ct rfl _ _ (w.heap.size + 1 + 1) 26 #[.pointer none] (0, 0) _ rfl (blk_put (cs := #[.pointer none]) d4 0 _ rfl) Try.underlying26 rfl (by kernel_rfl)) rfl ?_
    exact ⟨rfl, (HB.out.trans (h1.mono HB.out.size)).setCell (p := ⟨w.heap.size + 1 + 1, 0, none⟩) (by show w.heap.size ≤ w.heap.size + 1 + 1; omega) _⟩
  · have c1 : decide (A < 0) = false := decide_eq_false c
    have c2 : decide (D < 0) = true := decide_eq_true d
    clear h
    go_enter Try.func15, Try.ntmps15
    go_wp2_with (go_at_call 23; refine L.out.mono ?_; rintro e w1 ⟨rfl, h1⟩; obtain ⟨⟨d0, d1, d2, d3, d4⟩⟩ := REST.out w1 h1; have d5 := (blk_cell d4 0).trans rfl; have d6 := fun q => blk_frozen d4 q)
    go_wp2
    refine bodyPost_ret (results_ct rfl _ _ (w.heap.size + 1 + 1) 26 #[.pointer none] (0, 0) _ rfl (blk_put (cs := #[.pointer none]) d4 0 _ rfl) Try.underlying26 rfl (by kernel_rfl)) rfl ?_
    exact ⟨rfl, (HB.out.trans (h1.mono HB.out.size)).setCell (p := ⟨w.heap.size + 1 + 1, 0, none⟩) (by show w.heap.size ≤ w.heap.size + 1 + 1; omega) _⟩
  · have c1 : decide (A < 0) = false := decide_eq_false c
    have c2 : decide (D < 0) = false := decide_eq_false d
    have c3 : decide ((siz o : Int) < A) = true := decide_eq_true e
    clear h
    go_enter Try.func15, Try.ntmps15
    go_wp2_with (go_at_call 23; refine L.out.mono ?_; rintro e w1 ⟨rfl, h1⟩; obtain ⟨⟨d0, d1, d2, d3, d4⟩⟩ := REST.out w1 h1; have d5 := (blk_cell d4 0).trans rfl; have d6 := fun q => blk_frozen d4 q)
    go_wp2
    refine bodyPost_ret (results_ct rfl _ _ (w.heap.size + 1 + 1) 26 #[.pointer none] (0, 0) _ rfl (blk_put (cs := #[.pointer none]) d4 0 _ rfl) Try.underlying26 rfl (by kernel_rfl)) rfl ?_
    exact ⟨rfl, (HB.out.trans (h1.mono HB.out.size)).setCell (p := ⟨w.heap.size + 1 + 1, 0, none⟩) (by show w.heap.size ≤ w.heap.size + 1 + 1; omega) _⟩
  · have c1 : decide (A < 0) = false := decide_eq_false c
    have c2 : decide (D < 0) = false := decide_eq_false d
    have c3 : decide ((siz o : Int) < A) = false := decide_eq_false e
    obtain ⟨q, hq⟩ : ∃ q : Nat, (siz o : Int) - A = (q : Int) := ⟨((siz o : Int) - A).toNat, by omega⟩
    have c4 : decide ((q : Int) < D) = true := decide_eq_true (by omega)
    have hq2 : q ≤ 100000 := by omega
    have wq := wrapN q hq2
    have wm := wrapM q hq2
    clear h f hq2
    go_enter Try.func15, Try.ntmps15
    go_wp2_with (go_at_call 23; refine L.out.mono ?_; rintro e w1 ⟨rfl, h1⟩; obtain ⟨⟨d0, d1, d2, d3, d4⟩⟩ := REST.out w1 h1; have d5 := (blk_cell d4 0).trans rfl; have d6 := fun q => blk_frozen d4 q)
    go_wp2
    refine bodyPost_ret (results_ct rfl _ _ (w.heap.size + 1 + 1) 26 #[.pointer none] (0, 0) _ rfl (blk_put (cs := #[.pointer none]) d4 0 _ rfl) Try.underlying26 rfl (by kernel_rfl)) rfl ?_
    exact ⟨rfl, (HB.out.trans (h1.mono HB.out.size)).setCell (p := ⟨w.heap.size + 1 + 1, 0, none⟩) (by show w.heap.size ≤ w.heap.size + 1 + 1; omega) _⟩
set_option maxHeartbeats 8000000 in
set_option maxRecDepth 100000 in
theorem replace_good (o : Option T) (v : Value) (w : World) (a : At w v o) (k : Ok o) (hs : siz o ≤ 30000) (at_ D : Nat) (ins : ByteArray) (hi : ins.size ≤ 30000) (h : at_ + D ≤ siz o) :
    Calls Try.prog 15 #[.agg #[v], .agg #[.int .i64 at_, .int .i64 D, .string ins]] w fun e w' => ∃ v' o', e = .returned (.tuple #[.agg #[v'], .int .i64 0]) ∧ At w' v' o' ∧ txt o' = ((txt o).extract 0 at_ ++ ins) ++ (txt o).extract (at_ + D) (siz o) ∧ Ok o' ∧ Below w.heap.size w w' := by
  obtain ⟨p, rfl⟩ := a.ptr
  obtain ⟨g0, g1, g2, hb⟩ := heap3 w (.cells #[.pointer p] 26) (.cells #[.int .i64 at_, .int .i64 D, .string ins] 32) (.cells #[.pointer none] 26)
  obtain ⟨W, hW⟩ : ∃ W, ((w.alloc (.cells #[.pointer p] 26)).alloc (.cells #[.int .i64 at_, .int .i64 D, .string ins] 32)).alloc (.cells #[.pointer none] 26) = W := ⟨_, rfl⟩
  rw [hW] at g0 g1 g2 hb
  have c0 : W.cell? ⟨w.heap.size, 0, none⟩ = some (.pointer p) := (blk_cell g0 0).trans rfl
  have AW := Aside0.mk (a.below hb)
  have L := Aside0.mk (len_any o _ W (a.below hb))
  have G0 := Aside0.mk g0
  have G1 := Aside0.mk g1
  have G2 := Aside0.mk g2
  have HB := Aside0.mk hb
  clear g0 g1 g2 hb
  have rest : ∀ (w1 : World), Below W.heap.size W w1 → Aside0 (w1.cell? ⟨w.heap.size, 0, none⟩ = some (.pointer p) ∧ w1.cell? ⟨w.heap.size + 1, 0, none⟩ = some (.int .i64 at_) ∧ w1.cell? ⟨w.heap.size + 1, 1, none⟩ = some (.int .i64 D) ∧ w1.cell? ⟨w.heap.size + 1, 2, none⟩ = some (.string ins) ∧ w1.heap[w.heap.size + 1 + 1]? = some (.cells #[.pointer none] 26 (0, 0))) := fun w1 h1 =>
    Aside0.mk ⟨cellN h1 G0.out 0 rfl, cellN h1 G1.out 0 rfl, cellN h1 G1.out 1 rfl, cellN h1 G1.out 2 rfl, (h1.block _ (lt_of_some G2.out)).trans G2.out⟩
  have REST := Aside0.mk rest
  clear rest
  have c1 : decide ((at_ : Int) < 0) = false := decide_eq_false (by omega)
  have c2 : decide ((D : Int) < 0) = false := decide_eq_false (by omega)
  have c1x : ((at_ : Int) < 0) = False := eq_false (by omega)
  have c2x : ((D : Int) < 0) = False := eq_false (by omega)
  have c3 : decide ((siz o : Int) < (at_ : Int)) = false := decide_eq_false (by omega)
  have c3x : ((siz o : Int) < (at_ : Int)) = False := eq_false (by omega)
  have c3y : (siz o < at_) = False := eq_false (by omega)
  obtain ⟨q, hq0⟩ : ∃ q : Nat, q = siz o - at_ := ⟨_, rfl⟩
  obtain ⟨ad, had0⟩ : ∃ ad : Nat, ad = at_ + D := ⟨_, rfl⟩
  have hq : (siz o : Int) - (at_ : Int) = (q : Int) := by omega
  have had : (at_ : Int) + (D : Int) = (ad : Int) := by omega
  have c4 : decide ((q : Int) < (D : Int)) = false := decide_eq_false (by omega)
  have c4x : ((q : Int) < (D : Int)) = False := eq_false (by omega)
  have c4y : (q < D) = False := eq_false (by omega)
  have HA : Aside0 (at_ ≤ siz o) := Aside0.mk (by omega)
  have HAD : Aside0 (ad ≤ siz o) := Aside0.mk (by omega)
  have HQ := Aside0.mk had0
  have SO := Aside0.mk hs
  have SI := Aside0.mk hi
  have OKO := Aside0.mk k
  have wq := wrapN q (by omega)
  have wm := wrapM q (by omega)
  have wq2 := wrapN ad (by omega)
  have wm2 := wrapM ad (by omega)
  clear h hs hi hq0 had0 k
  go_enter Try.func15, Try.ntmps15
  go_wp2_with (go_at_call 23; refine L.out.mono ?_; rintro e w1 ⟨rfl, h1⟩; obtain ⟨⟨d0, d1, d2, d3, d4⟩⟩ := REST.out w1 h1)
  have HB1 := Aside0.mk h1
  clear h1
  go_wp2_with (fail)
  refine start_ (n := 10) (S := fun w' => w'.cell? ⟨w.heap.size, 0, none⟩ = some (.pointer p) ∧ w'.cell? ⟨w.heap.size + 1, 0, none⟩ = some (.int .i64 at_) ∧ w'.cell? ⟨w.heap.size + 1, 2, none⟩ = some (.string ins)) (ds := []) #[false, false, false, false, false, false, false, false, false, false] (by kernel_rfl) rfl rfl ⟨cellN (HB1.out.trans (below_drew (Below.refl _ _))) G0.out 0 rfl, cellN (HB1.out.trans (below_drew (Below.refl _ _))) G1.out 0 rfl, cellN (HB1.out.trans (below_drew (Below.refl _ _))) G1.out 2 rfl⟩ (fun hHeld => ?_)
  refine with_tab (T := rtab .any (opsOf Try.f15 4)) rfl (fun HT_ => ?_)
  refine pure_ (i := 0) (N := some 34) (v := ?_) (a' := ?_) #[true, false, false, false, false, false, false, false, false, false] rfl rfl (any_of HT_.out (by kernel_rfl)) (fun _ _ _ h => h) (Or.inl ⟨by rfl, ?_⟩) ?_ ?_
  rotate_left
  · intro w'
    go_simp
    with_reducible rfl
  rotate_left
  · simp only [Act.put, List.setIfInBounds_toArray, List.set_cons_zero, List.set_cons_succ, i64_w, i32_w]
    rfl
  refine take_ (i := 1) (N := some 35) (v := ?_) (a' := ?_) #[true, true, false, false, false, false, false, false, false, false] rfl rfl (take_of HT_.out (by kernel_rfl)) (fun _ _ _ h => h) (Or.inl ⟨by rfl, ?_⟩) hHeld ?_ ?_
  rotate_left
  · rintro w' ⟨s0, s1, s2⟩
    go_simp
    with_reducible rfl
  rotate_left
  · simp only [Act.put, List.setIfInBounds_toArray, List.set_cons_zero, List.set_cons_succ, i64_w, i32_w]
    rfl
  refine pure_ (i := 2) (N := some 36) (v := ?_) (a' := ?_) #[true, true, true, false, false, false, false, false, false, false] rfl rfl (any_of HT_.out (by kernel_rfl)) (fun _ _ _ h => h) (Or.inl ⟨by rfl, ?_⟩) ?_ ?_
  rotate_left
  · intro w'
    go_simp
    with_reducible rfl
  rotate_left
  · simp only [Act.put, List.setIfInBounds_toArray, List.set_cons_zero, List.set_cons_succ, i64_w, i32_w]
    rfl
  refine take_ (i := 3) (N := some 37) (v := ?_) (a' := ?_) #[true, true, true, true, false, false, false, false, false, false] rfl rfl (take_of HT_.out (by kernel_rfl)) (fun _ _ _ h => h) (Or.inl ⟨by rfl, ?_⟩) hHeld ?_ ?_
  rotate_left
  · rintro w' ⟨s0, s1, s2⟩
    go_simp
    with_reducible rfl
  rotate_left
  · simp only [Act.put, List.setIfInBounds_toArray, List.set_cons_zero, List.set_cons_succ, i64_w, i32_w]
    rfl
  refine pure_ (i := 5) (N := some 39) (v := ?_) (a' := ?_) #[true, true, true, true, false, true, false, false, false, false] rfl rfl (any_of HT_.out (by kernel_rfl)) (fun _ _ _ h => h) (Or.inl ⟨by rfl, ?_⟩) ?_ ?_
  rotate_left
  · intro w'
    go_simp
    with_reducible rfl
  rotate_left
  · simp only [Act.put, List.setIfInBounds_toArray, List.set_cons_zero, List.set_cons_succ, i64_w, i32_w]
    rfl
  refine take_ (i := 6) (N := some 40) (v := ?_) (a' := ?_) #[true, true, true, true, false, true, true, false, false, false] rfl rfl (take_of HT_.out (by kernel_rfl)) (fun _ _ _ h => h) (Or.inl ⟨by rfl, ?_⟩) hHeld ?_ ?_
  rotate_left
  · rintro w' ⟨s0, s1, s2⟩
    go_simp
    with_reducible rfl
  rotate_left
  · simp only [Act.put, List.setIfInBounds_toArray, List.set_cons_zero, List.set_cons_succ, i64_w, i32_w]
    rfl
  refine one_ (i := 4) (N := some 38) #[true, true, true, true, true, true, true, false, false, false] rfl rfl (one_of HT_.out (by kernel_rfl)) (by decide) (fun K hK => ?_)
  refine goes_ Try.func30 (by kernel_rfl) rfl #[.pointer p, .int .i64 0, .int .i64 at_] (by rfl) rfl rfl (by (try simp only [List.map_toArray, List.map_cons, List.map_nil]); first | done | rfl) ?_
  refine (slice_opt o _ _ (AW.out.below (HB1.out.trans (below_drew (Below.refl _ _)))) OKO.out (by have := SO.out; omega) 0 at_ HA.out).mono ?_
  rintro e x1 ⟨v1, o1, rfl, a1, t1, k1, b1⟩
  have hb1 : Aside0 (Below W.heap.size W x1) := Aside0.mk ((HB1.out.trans (below_drew (Below.refl _ _))).trans (b1.mono (HB1.out.size)))
  refine ⟨_, rfl, ?_⟩
  refine hK.out _ _ ⟨cellN (hb1.out) G0.out 0 rfl, cellN (hb1.out) G1.out 0 rfl, cellN (hb1.out) G1.out 2 rfl⟩ (fun hHeld => ?_)
  clear hK K
  refine norm_ (a' := ?_) ?_ ?_
  rotate_left
  · show Act.put _ (some 38) _ = _
    simp only [Act.put, List.setIfInBounds_toArray, List.set_cons_zero, List.set_cons_succ, i64_w, i32_w]
    rfl
  refine one_ (i := 7) (N := some 41) #[true, true, true, true, true, true, true, true, false, false] rfl rfl (one_of HT_.out (by kernel_rfl)) (by decide) (fun K hK => ?_)
  refine goes_ Try.func28 (by kernel_rfl) rfl #[.string ins] (by rfl) rfl rfl (by (try simp only [List.map_toArray, List.map_cons, List.map_nil]); first | done | rfl) ?_
  refine (build_any ins (by have := SI.out; omega) x1).mono ?_
  rintro e x2 ⟨v2, o2, rfl, a2, t2, k2, _, b2⟩
  have hb2 : Aside0 (Below W.heap.size W x2) := Aside0.mk (hb1.out.trans (b2.mono hb1.out.size))
  refine ⟨_, rfl, ?_⟩
  refine hK.out _ _ ⟨cellN (hb2.out) G0.out 0 rfl, cellN (hb2.out) G1.out 0 rfl, cellN (hb2.out) G1.out 2 rfl⟩ (fun hHeld => ?_)
  clear hK K
  refine norm_ (a' := ?_) ?_ ?_
  rotate_left
  · show Act.put _ (some 41) _ = _
    simp only [Act.put, List.setIfInBounds_toArray, List.set_cons_zero, List.set_cons_succ, i64_w, i32_w]
    rfl
  refine one_ (i := 8) (N := some 42) #[true, true, true, true, true, true, true, true, true, false] rfl rfl (one_of HT_.out (by kernel_rfl)) (by decide) (fun K hK => ?_)
  refine goes_ Try.func29 (by kernel_rfl) rfl #[v1, v2] (by rfl) rfl rfl (by (try simp only [List.map_toArray, List.map_cons, List.map_nil]); first | done | rfl) ?_
  refine (join_ok o1 o2 v1 v2 x2 (a1.below b2) k1 a2 k2 (by have e1 := txt_size o1; have e2 := txt_size o2; rw [t1, ByteArray.size_extract, txt_size] at e1; rw [t2] at e2; have := SO.out; have := SI.out; have := HA.out; omega)).mono ?_
  rintro e x3 ⟨v3, o3, rfl, a3, t3, k3, b3⟩
  have hb3 : Aside0 (Below W.heap.size W x3) := Aside0.mk (hb2.out.trans (b3.mono hb2.out.size))
  refine ⟨_, rfl, ?_⟩
  refine hK.out _ _ ⟨cellN (hb3.out) G0.out 0 rfl, cellN (hb3.out) G1.out 0 rfl, cellN (hb3.out) G1.out 2 rfl⟩ (fun hHeld => ?_)
  clear hK K
  refine norm_ (a' := ?_) ?_ ?_
  rotate_left
  · show Act.put _ (some 42) _ = _
    simp only [Act.put, List.setIfInBounds_toArray, List.set_cons_zero, List.set_cons_succ, i64_w, i32_w]
    rfl
  refine pure_ (i := 9) (N := some 7) (v := ?_) (a' := ?_) #[true, true, true, true, true, true, true, true, true, true] rfl rfl (any_of HT_.out (by kernel_rfl)) (fun _ _ _ h => h) (Or.inl ⟨by rfl, ?_⟩) ?_ ?_
  rotate_left
  · intro w'
    go_simp
    with_reducible rfl
  rotate_left
  · simp only [Act.put, List.setIfInBounds_toArray, List.set_cons_zero, List.set_cons_succ, i64_w, i32_w]
    rfl
  refine done_ (done_of HT_.out (by kernel_rfl)) ?_
  obtain ⟨⟨d0, d1, d2, d3, d4⟩⟩ := REST.out x3 hb3.out
  replace t3 := Aside0.mk t3
  replace t1 := Aside0.mk t1
  replace t2 := Aside0.mk t2
  have S3 : Aside0 (siz o3 ≤ 60000) := Aside0.mk (by have e3 := txt_size o3; rw [t3.out, ByteArray.size_append, t1.out, t2.out, ByteArray.size_extract, txt_size] at e3; have := SO.out; have := SI.out; have := HA.out; omega)
  go_wp2_with (go_at_call 30; refine (slice_opt o _ x3 (AW.out.below hb3.out) OKO.out (by have := SO.out; omega) ad (siz o) (Nat.le_refl _)).mono ?_; rintro e x4 ⟨v4, o4, rfl, a4, t4, k4, b4⟩; replace t4 := Aside0.mk t4)
  have hb4 : Aside0 (Below W.heap.size W x4) := Aside0.mk (hb3.out.trans (b4.mono hb3.out.size))
  go_wp2_with (go_at_call 29; refine (join_ok o3 o4 v3 v4 x4 (a3.below b4) k3 a4 k4 (by have e4 := txt_size o4; rw [t4.out, ByteArray.size_extract, txt_size] at e4; have := SO.out; have := S3.out; omega)).mono ?_; rintro e x5 ⟨v5, o5, rfl, a5, t5, k5, b5⟩; obtain ⟨p5, rfl⟩ := a5.ptr; replace t5 := Aside0.mk t5; have hb5 : Aside0 (Below W.heap.size W x5) := Aside0.mk (hb4.out.trans (b5.mono hb4.out.size)); obtain ⟨⟨e0, e1, e2, e3, e4⟩⟩ := REST.out x5 hb5.out; have e5 := (blk_cell e4 0).trans rfl; have e6 := fun q => blk_frozen e4 q)
  go_wp2
  refine bodyPost_ret (results_ct rfl _ _ (w.heap.size + 1 + 1) 26 #[.pointer p5] (0, 0) _ rfl (blk_put (cs := #[.pointer none]) e4 0 _ rfl) Try.underlying26 rfl (by kernel_rfl)) rfl ?_
  exact ⟨_, o5, rfl, a5.set e4 (by decide) 0 _, by rw [t5.out, t3.out, t1.out, t2.out, t4.out, HQ.out], k5, (HB.out.trans (hb5.out.mono HB.out.size)).setCell (p := ⟨w.heap.size + 1 + 1, 0, none⟩) (by show w.heap.size ≤ w.heap.size + 1 + 1; omega) _⟩
end Go.Proofs.Ytmoceagbmgoijaa.Rop
