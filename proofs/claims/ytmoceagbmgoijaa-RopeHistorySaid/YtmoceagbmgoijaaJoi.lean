/- A law of the rope: its call answers true, for all arguments. -/
import Derived.Test.YtmoceagbmgoijaaChk
import Derived.KernelRfl
import Derived.RangeFuncNested
import Derived.RangeFuncBound
import Derived.RangeFuncCalls
import Derived.RangeFuncLeaves
import Derived.OwnWalkIn
import Derived.TacticsInMore
import Derived.LoopNIn
import Derived.LoopIn
import Derived.WalkKit
import Derived.Outline
import Derived.BigRegionIn
namespace Go.Proofs.Ytmoceagbmgoijaa.Rop
open Go.RowKit Go.Proofs.YtmoceagbmgoijaaW.PrintWords Go.Proofs.YtmoceagbmgoijaaW.PrintLast Go.Proofs.YtmoceagbmgoijaaW.PrintMore Go.Proofs.Ytmoceagbmgoijaa.Tre Go.Proofs.Ytmoceagbmgoijaa.PA
attribute [local go_sem] Oper.semAt_some max2_int min2_int max_two min_two max_three min_three max_four min_four
set_option linter.unusedVariables false
set_option linter.unusedSimpArgs false

set_option maxHeartbeats 2000000 in
set_option maxRecDepth 100000 in
/-- Chunks: the closure over the rope's own box. -/
theorem chunksm_any (p : Option Addr) (W : World) : Calls Try.prog 27 #[.agg #[.pointer p]] W fun e W' => e = .returned (.func (.func 32) #[] #[.pointer (some ⟨W.heap.size, 0, none⟩)]) ∧ W' = W.alloc (.cells #[.pointer p] 26) := by
  go_enter Try.func27, Try.ntmps27
  go_wp2
  go_ret
  exact ⟨rfl, rfl⟩
/-- the two variables that the range's body writes -/
structure Jv (sB oB : Nat) (pre : List Lf) (W : World) : Prop where
  hs : W.heap[sB]? = some (.cells #[.string (cat (lf pre))] 9 (0, 0))
  ho : W.heap[oB]? = some (.cells #[.bool true] 4 (0, 0))
theorem Jv.own (sB oB : Nat) : Own (Jv sB oB) := fun s W W' row hs hg hr =>
  ⟨(grownBy_keeps_cells hg hr hs.hs rfl).trans hs.hs, (grownBy_keeps_cells hg hr hs.ho rfl).trans hs.ho⟩
set_option maxHeartbeats 8000000 in
set_option maxRecDepth 100000 in
theorem joined_any (o : Option T) (v : Value) (w : World) (a : At w v o) (k : Ok o) (hs : siz o ≤ 100000) :
    Calls Try.prog 26 #[.agg #[v]] w fun e w' => e = .returned (.tuple #[.string (txt o), .bool true]) ∧ Below w.heap.size w w' := by
  obtain ⟨p, rfl⟩ := a.ptr
  have hnil : ∀ (W : World) (b : Value), (binOp BinOp.eql 56 (.func (.func 32) #[] #[b]) .nilFunc).run Try.prog W = .ok (.bool false) W := fun W b => by first | rfl | (simp [binOp]; done) | (unfold binOp; simp [Try.underlying56]; done)
  refine (callsIn_wide (n := 6)).1 ?_
  refine callsIn_of_wp_marks Try.func26 rfl trivial ?_ rfl
  simp only [Try.ntmps26, List.size_toArray, List.length_cons, List.length_nil, Nat.reduceAdd, Nat.reduceSub, Array.replicate_succ, Array.replicate_zero, List.push_toArray, List.append_toArray, List.nil_append, List.cons_append]
  gi_wp2_with (refine ⟨trivial, ?_⟩; gi_at_call 27; refine (callsIn_wide.2 (chunksm_any p _)).mono ?_; rintro e w' ⟨rfl, rfl⟩)
  obtain ⟨W2, hW2⟩ : ∃ W2, ((((w.alloc (Obj.cells #[Value.pointer p] 26)).alloc (Obj.cells #[Value.pointer p] 26)).alloc (Obj.cells #[Value.string { data := #[] }] 9)).alloc (Obj.cells #[Value.bool true] 4)) = W2 := ⟨_, rfl⟩
  have hz2 : W2.heap.size = w.heap.size + 4 := by rw [← hW2]; simp
  have hA2 : At W2 (.pointer p) o := by rw [← hW2]; exact (((a.alloc _).alloc _).alloc _).alloc _
  have hB2 : Below w.heap.size w W2 := by rw [← hW2]; exact ((((Below.refl _ w).alloc (Nat.le_refl _) _).alloc (by rw [World.size_alloc]; omega) _).alloc (by simp only [World.size_alloc]; omega) _).alloc (by simp only [World.size_alloc]; omega) _
  have hc2 : W2.cell? ⟨w.heap.size + 1, 0, none⟩ = some (.pointer p) := by
    rw [← hW2]
    have z0 : (w.alloc (Obj.cells #[Value.pointer p] 26)).heap.size = w.heap.size + 1 := by simp only [World.size_alloc]
    refine (blk_cell (cs := #[.pointer p]) (t := 26) ?_ 0).trans rfl
    rw [Below.heap_alloc _ _ _ (by simp only [World.size_alloc]; omega), Below.heap_alloc _ _ _ (by simp only [World.size_alloc]; omega), ← z0]
    exact World.alloc_heap_new _ _
  have hJ2 : Jv (w.heap.size + 1 + 1) (w.heap.size + 1 + 1 + 1) [] W2 := by
    rw [← hW2]
    have z1 : ((w.alloc (Obj.cells #[Value.pointer p] 26)).alloc (Obj.cells #[Value.pointer p] 26)).heap.size = w.heap.size + 1 + 1 := by simp only [World.size_alloc]
    have z2 : (((w.alloc (Obj.cells #[Value.pointer p] 26)).alloc (Obj.cells #[Value.pointer p] 26)).alloc (Obj.cells #[Value.string { data := #[] }] 9)).heap.size = w.heap.size + 1 + 1 + 1 := by simp only [World.size_alloc]
    refine ⟨?_, ?_⟩
    · rw [Below.heap_alloc _ _ _ (by omega), ← z1]; exact World.alloc_heap_new _ _
    · rw [← z2]; exact World.alloc_heap_new _ _
  rw [hW2]
  obtain ⟨sB, hsB⟩ : ∃ q, q = w.heap.size + 1 + 1 := ⟨_, rfl⟩
  obtain ⟨oB, hoB⟩ : ∃ q, q = w.heap.size + 1 + 1 + 1 := ⟨_, rfl⟩
  rw [← hoB, ← hsB]
  rw [← hoB, ← hsB] at hJ2
  clear hW2
  replace hsB := Aside0.mk hsB
  replace hoB := Aside0.mk hoB
  refine wpIn_rangeFunc_ownF (α := Lf) rfl (by decide) (gf := 32) (lb := #[.pointer (some ⟨w.heap.size + 1, 0, none⟩)]) rfl trivial (enters_of Try.func32 (by kernel_rfl) rfl)
    (chunks_stops o p (w.heap.size + 1) W2 k hc2 (by omega) hA2) KpN.trans (KpN.put (w := W2)) (Below.refl _ _) (fun _ => rfl)
    (fun pre W => Jv sB oB pre W ∧ Below w.heap.size w W) (fun _ _ _ => False)
    (OwnFrom.and ((Jv.own sB oB).from _) (ownFrom_below (Nat.le_refl _) (by have := hB2.size; omega)))
    (fun _ _ _ _ _ hs _ _ => hs)
    ⟨hJ2, hB2⟩
    (fun x => { tmps := #[.agg #[.pointer p], .pointer (some ⟨w.heap.size, 0, none⟩), .string ⟨#[]⟩, .bool false, .func (.func 32) #[] #[.pointer (some ⟨w.heap.size + 1, 0, none⟩)], .pointer (some ⟨sB, 0, none⟩), .pointer (some ⟨oB, 0, none⟩), .string x.1, .agg #[.pointer p], .func (.func 32) #[] #[.pointer (some ⟨w.heap.size + 1, 0, none⟩)], .func (.func 32) #[] #[.pointer (some ⟨w.heap.size + 1, 0, none⟩)], .bool false, .func (.func 32) #[] #[.pointer (some ⟨w.heap.size + 1, 0, none⟩)], .string x.1, undef, undef, undef, undef, undef, undef, undef, undef, undef, undef, undef, undef, undef, undef, undef, undef], defers := [] }) ?assign ?body ?done ?stop
  case assign =>
    intro l x W K hK
    gi_wp2
    exact hK
  case body =>
    rintro l pre x W ⟨hT, hB⟩ hN
    have hsB := hsB.out
    have hoB := hoB.out
    have hl := cat_lf_size pre
    have hn := lvs_len k
    have hsn : cat (lf (pre ++ [x])) = cat (lf pre) ++ x.1 := by rw [lf_snoc, cat_snoc]
    have HS := Aside0.mk hsn
    have HT := Aside0.mk hT
    obtain ⟨s, hs0⟩ : ∃ s, cat (lf pre) = s := ⟨_, rfl⟩
    rw [hs0] at hl
    have x1 := x.2.1
    have x2 := x.2.2
    obtain ⟨z, hz⟩ : ∃ z, x.1 = z := ⟨_, rfl⟩
    rw [hz] at x1 x2 HS ⊢
    have c1 : W.cell? ⟨sB, 0, none⟩ = some (.string s) := by rw [← hs0]; exact (blk_cell hT.hs 0).trans rfl
    have c2 : W.cell? ⟨oB, 0, none⟩ = some (.bool true) := (blk_cell hT.ho 0).trans rfl
    have f1 : W.frozen? ⟨sB, 0, none⟩ = false := blk_frozen hT.hs 0
    have f2 : W.frozen? ⟨oB, 0, none⟩ = false := blk_frozen hT.ho 0
    have g1 : (1 ≤ (z.size : Int)) = True := eq_true (by omega)
    have g2 : ((z.size : Int) ≤ 64) = True := eq_true (by omega)
    have g1x : (1 ≤ z.size) = True := eq_true (by omega)
    have g2x : (z.size ≤ 64) = True := eq_true (by omega)
    have g1y : (z.size ≥ 1) = True := eq_true (by omega)
    have s1 : (9223372036854775807 < s.size + z.size) = False := eq_false (by omega)
    have HB := Aside0.mk hB
    have H0 := Aside0.mk hs0
    have hne : sB ≠ oB := by omega
    have hs3 : w.heap.size ≤ sB := by omega
    have hs4 : w.heap.size ≤ oB := by omega
    clear hT hB hsn hs0 hl hN hn x1 x2 hz hsB hoB
    gi_wp2
    have hT := HT.out
    refine ⟨(KeepsOthers.setCell _ _ _).trans (KeepsOthers.setCell _ _ _), ?_, ⟨?_, ?_⟩, (HB.out.setCell (p := ⟨oB, 0, none⟩) hs4 _).setCell (p := ⟨sB, 0, none⟩) hs3 _⟩
    · intro q cs hq
      exact blk_far (blk_far hq (p := ⟨oB, 0, none⟩) (blk_ne hq hT.ho (by decide)) _) (p := ⟨sB, 0, none⟩) (blk_ne hq hT.hs (by decide)) _
    · rw [HS.out, H0.out]
      exact blk_put (blk_far hT.hs (p := ⟨oB, 0, none⟩) hne _) 0 _ rfl
    · exact blk_far (blk_put hT.ho 0 _ rfl) (p := ⟨sB, 0, none⟩) (Ne.symm hne) _
  case done =>
    rintro D ys W hD hys ⟨hT, hB⟩ hKd
    have e : cat (lf ys) = txt o := by rw [hys]; exact cat_lvs o
    have c1 : W.cell? ⟨sB, 0, none⟩ = some (.string (txt o)) := by rw [← e]; exact (blk_cell hT.hs 0).trans rfl
    have c2 : W.cell? ⟨oB, 0, none⟩ = some (.bool true) := (blk_cell hT.ho 0).trans rfl
    have HB := Aside0.mk hB
    clear hB hT e
    gi_wp2
    gi_region
    rename_i Kz hKz
    refine hKz _ _ ?_
    gi_wp2
    have hKd1 : W.drew.heap[D]? = some (Obj.deferred (some [])) := hKd
    refine ⟨by simp, .inl ⟨_, _, rfl, run_takeDeferred hKd1, ?_⟩⟩
    refine ⟨.tuple #[.string (txt o), .bool true], by simp [results, Try.f26, go_sem], rfl, ?_⟩
    exact (below_drew HB.out).trans (belowK_b (w := w) (Nat.le_refl _) W.drew D _ _ (by have := hB2.size; omega) hKd1 rfl rfl)
  case stop =>
    rintro D c pre W _ _ h _
    exact h.elim
end Go.Proofs.Ytmoceagbmgoijaa.Rop
