/- textdiff.of: the table of two strings: what the call leaves. -/
import Derived.Test.YthhgfagnallcnaaOf
import Derived.BigRegionIn
set_option linter.unusedVariables false
set_option linter.unusedSimpArgs false
namespace Go.Proofs.Ythhgfagnallcnaa.Of
open Go.RowKit Go.Shelf Go.Proofs.YthhgfagnallcnaaW.PrintWords Go.Proofs.YthhgfagnallcnaaW.PrintLast
attribute [local go_sem] Oper.semAt_some

theorem info3 : (Try.prog.info? 3).map (fun i => (i.zero, i.size, i.bytes)) = some (some (.int .i64 0), 1, 8) := by kernel_rfl

/-- the table in memory -/
structure Tb (a b : ByteArray) (ba bb vB tB gB : Nat) (cost : List Int) (W : World) : Prop where
  ha : W.heap[ba]? = some (.cells #[.string a] 9 (0, 0))
  hb : W.heap[bb]? = some (.cells #[.string b] 9 (0, 0))
  hv : W.heap[vB]? = some (.cells #[.pointer (some ⟨tB, 0, none⟩)] 38 (0, 0))
  ht : W.heap[tB]? = some (.cells #[.string a, .string b, .slice (some ⟨gB, 0, none⟩) cost.length cost.length] 44 (0, 0))
  hg : W.heap[gB]? = some (.cells (nums .i64 cost).toArray 3 (0, 0))
theorem Tb.keep {a b : ByteArray} {ba bb vB tB gB : Nat} {cost : List Int} {W W' : World} (h : Tb a b ba bb vB tB gB cost W) (hk : ∀ (k : Nat) (o : Obj), W.heap[k]? = some o → o.isCells = true → W'.heap[k]? = some o) : Tb a b ba bb vB tB gB cost W' :=
  ⟨hk _ _ h.ha rfl, hk _ _ h.hb rfl, hk _ _ h.hv rfl, hk _ _ h.ht rfl, hk _ _ h.hg rfl⟩
theorem Tb.own {a b : ByteArray} {ba bb vB tB gB : Nat} {α : Type} (f : List α → List Int) : Own (fun (s : List α) W => Tb a b ba bb vB tB gB (f s) W) := fun s W W' row hs hg hr =>
  hs.keep fun k o ho hc => (grownBy_keeps_cells hg hr ho hc).trans ho
theorem Tb.drewN {a b : ByteArray} {ba bb vB tB gB : Nat} {cost : List Int} {W : World} (h : Tb a b ba bb vB tB gB cost W) (n : Nat) : Tb a b ba bb vB tB gB cost (W.drewN n) := h.keep fun _ _ ho _ => ho
theorem Tb.put {a b : ByteArray} {ba bb vB tB gB : Nat} {cost : List Int} {W : World} (h : Tb a b ba bb vB tB gB cost W) (q : Nat) (v : Int) : Tb a b ba bb vB tB gB (cost.set q v) (W.setCell ⟨gB, q, none⟩ (.int .i64 v)) := by
  have other : ∀ (k : Nat) (t : TypeId) (cs : Array Value), W.heap[k]? = some (Obj.cells cs t (0, 0)) → t ≠ 3 → (W.setCell ⟨gB, q, none⟩ (.int .i64 v)).heap[k]? = some (Obj.cells cs t (0, 0)) := fun k t cs hk ht => blk_far hk (blk_ne hk h.hg ht) _
  refine ⟨other _ _ _ h.ha (by decide), other _ _ _ h.hb (by decide), other _ _ _ h.hv (by decide), ?_, ?_⟩
  · rw [List.length_set]; exact other _ _ _ h.ht (by decide)
  · have := blk_set h.hg q (.int .i64 v)
    rw [this]
    simp [nums]
theorem Tb.cell {a b : ByteArray} {ba bb vB tB gB : Nat} {cost : List Int} {W : World} (h : Tb a b ba bb vB tB gB cost W) (q : Int) (q0 : 0 ≤ q) (q1 : q < cost.length) : W.cell? ⟨gB, q.toNat, none⟩ = some (.int .i64 (rd cost q)) := by
  rw [blk_cell h.hg]
  have hl : q.toNat < cost.length := by omega
  simp [nums, rd, hl, List.getD]
theorem Tb.reads {a b : ByteArray} {ba bb vB tB gB : Nat} {cost : List Int} {W : World} (h : Tb a b ba bb vB tB gB cost W) (hm : cost.length ≤ 9223372036854775807) : Kd.C (Kd.int .i64) W (some ⟨gB, 0, none⟩) cost.length cost := by
  refine ⟨rfl, hm, fun _ => ⟨_, rfl, fun j p hj => ⟨[.int .i64 p], rfl, rfl, fun i u hu => ?_⟩⟩⟩
  have hi : i = 0 := by
    have := (List.getElem?_eq_some_iff.1 hu).1; simp at this; omega
  subst hi
  simp at hu
  subst hu
  have hj' := (List.getElem?_eq_some_iff.1 hj).1
  have := h.cell j (by omega) (by omega)
  rw [Int.toNat_natCast] at this
  show W.cell? ((⟨gB, 0, none⟩ : Addr).add (j * 1 + 0)) = _
  rw [add_plain, Nat.mul_one, Nat.add_zero, this]
  unfold rd
  rw [Int.toNat_natCast, List.getD_eq_getElem?_getD, hj]; rfl

theorem Tb.facts {a b : ByteArray} {ba bb vB tB gB : Nat} {cost : List Int} {W : World} (h : Tb a b ba bb vB tB gB cost W) (q : Nat) (hq : q < cost.length) : W.cell? ⟨ba, 0, none⟩ = some (.string a) ∧ W.cell? ⟨bb, 0, none⟩ = some (.string b) ∧ W.cell? ⟨vB, 0, none⟩ = some (.pointer (some ⟨tB, 0, none⟩)) ∧
    W.cell? ⟨tB, 2, none⟩ = some (.slice (some ⟨gB, 0, none⟩) cost.length cost.length) ∧ W.cell? ⟨gB, q, none⟩ = some (.int .i64 (rd cost (q : Int))) ∧ W.frozen? ⟨gB, q, none⟩ = false :=
  ⟨(blk_cell h.ha 0).trans rfl, (blk_cell h.hb 0).trans rfl, (blk_cell h.hv 0).trans rfl, (blk_cell h.ht 2).trans rfl, h.cell q (by omega) (by omega), blk_frozen h.hg q⟩
theorem idx_lt (n m i j : Nat) (hi : i ≤ n) (hj : j ≤ m) : i * (m + 1) + j < (n + 1) * (m + 1) := by
  have : i * (m + 1) ≤ n * (m + 1) := Nat.mul_le_mul_right _ hi
  rw [Nat.add_mul n 1]; omega
/-- t.at(x, y) at the table -/
theorem at_tb {a b : ByteArray} {ba bb vB tB gB : Nat} {cost : List Int} {W : World} (h : Tb a b ba bb vB tB gB cost W) (ha : a.size ≤ 1000) (hb : b.size ≤ 1000) (hl : cost.length = (a.size + 1) * (b.size + 1)) (x y : Int) (i j : Nat) (hx : x = i) (hy : y = j) (hi : i ≤ a.size) (hj : j ≤ b.size) :
    Calls Try.prog 22 #[.pointer (some ⟨tB, 0, none⟩), .int .i64 x, .int .i64 y] W fun e w' => e = .returned (.int .i64 (rd cost (x * ((b.size : Int) + 1) + y))) ∧ Drawn0 W w' := by
  subst hx hy
  have hlt := idx_lt a.size b.size i j hi hj
  have hm : (a.size + 1) * (b.size + 1) ≤ 1001 * 1001 := Nat.mul_le_mul (by omega) (by omega)
  have e : (i : Int) * ((b.size : Int) + 1) = ((i * (b.size + 1) : Nat) : Int) := by simp
  generalize i * (b.size + 1) = q0 at hlt e
  refine at_any tB (some ⟨gB, 0, none⟩) cost.length a b cost i j ((i : Int) * ((b.size : Int) + 1) + (j : Int)) W ((blk_cell h.ht 0).trans rfl) ((blk_cell h.ht 1).trans rfl) ((blk_cell h.ht 2).trans rfl) (h.reads (by omega)) ?_ (by omega) (by omega)
  have e1 : wrap64 ((b.size : Int) + 1) = (b.size : Int) + 1 := by unfold wrap64; omega
  rw [e1, e]
  have e2 : wrap64 ((q0 : Nat) : Int) = ((q0 : Nat) : Int) := by unfold wrap64; omega
  rw [e2]
  unfold wrap64; omega
theorem at_tb2 {a b : ByteArray} {ba bb vB tB gB : Nat} {cost : List Int} {W : World} (h : Tb a b ba bb vB tB gB cost W) (ha : a.size ≤ 1000) (hb : b.size ≤ 1000) (hl : cost.length = (a.size + 1) * (b.size + 1)) (x y : Int) (hxy : ∃ i j : Nat, x = i ∧ y = j ∧ i ≤ a.size ∧ j ≤ b.size) :
    Calls Try.prog 22 #[.pointer (some ⟨tB, 0, none⟩), .int .i64 x, .int .i64 y] W fun e w' => e = .returned (.int .i64 (rd cost (x * ((b.size : Int) + 1) + y))) ∧ Drawn0 W w' := by
  obtain ⟨i, j, hx, hy, hi, hj⟩ := hxy
  exact at_tb h ha hb hl x y i j hx hy hi hj
/-- what the round of the pair (i, j) writes, and the table behind it -/
def val (a b : ByteArray) (cost : List Int) (i j : Nat) : Int :=
  if i = a.size then (b.size : Int) - j
  else if j = b.size then (a.size : Int) - i
  else if bt a i = bt b j then rd cost (((i : Int) + 1) * ((b.size : Int) + 1) + ((j : Int) + 1))
  else wrap64 (1 + min (rd cost (((i : Int) + 1) * ((b.size : Int) + 1) + (j : Int))) (rd cost ((i : Int) * ((b.size : Int) + 1) + ((j : Int) + 1))))
def stepT (a b : ByteArray) (cost : List Int) (x : Pr a.size b.size) : List Int := cost.set (x.1.1 * (b.size + 1) + x.1.2) (val a b cost x.1.1 x.1.2)
def fillT (a b : ByteArray) (xs : List (Pr a.size b.size)) : List Int := xs.foldl (stepT a b) (List.replicate ((a.size + 1) * (b.size + 1)) 0)
theorem fillT_snoc (a b : ByteArray) (xs : List (Pr a.size b.size)) (x : Pr a.size b.size) : fillT a b (xs ++ [x]) = stepT a b (fillT a b xs) x := by simp [fillT]
theorem stepT_length (a b : ByteArray) (cost : List Int) (x : Pr a.size b.size) : (stepT a b cost x).length = cost.length := by simp [stepT]
theorem fillT_length (a b : ByteArray) (xs : List (Pr a.size b.size)) : (fillT a b xs).length = (a.size + 1) * (b.size + 1) := by
  unfold fillT
  suffices h : ∀ (xs : List (Pr a.size b.size)) (c : List Int), (xs.foldl (stepT a b) c).length = c.length by rw [h]; simp
  intro xs
  induction xs with
  | nil => intro c; rfl
  | cons x xs ih => intro c; rw [List.foldl_cons, ih, stepT_length]
/-- the whole table -/
def table (a b : ByteArray) : List Int := fillT a b (upto a.size b.size ((a.size + 1) * (b.size + 1)))

theorem made_eq (N : Nat) : madeCells #[Value.int .i64 0] N = (nums .i64 (List.replicate N 0)).toArray := by
  apply Array.ext'
  apply List.ext_getElem
  · simp [nums, madeCells]
  · intro i h1 h2
    simp [nums, madeCells, Nat.mod_one]
theorem heap5 (w : World) (o1 o2 o3 o4 o5 : Obj) : let W := (((((w.alloc o1).alloc o2).alloc o3).alloc o4).alloc o5).drew
    W.heap[w.heap.size]? = some o1 ∧ W.heap[w.heap.size + 1]? = some o2 ∧ W.heap[w.heap.size + 1 + 1]? = some o3 ∧ W.heap[w.heap.size + 1 + 1 + 1]? = some o4 ∧ W.heap[w.heap.size + 1 + 1 + 1 + 1]? = some o5 ∧ Below w.heap.size w W := by
  have new : ∀ (X : World) (o : Obj) (k : Nat), k = X.heap.size → (X.alloc o).heap[k]? = some o := fun X o k hk => by rw [hk]; exact World.alloc_heap_new X o
  have old : ∀ (X : World) (o : Obj) (k : Nat), k < X.heap.size → (X.alloc o).heap[k]? = X.heap[k]? := fun X o k hk => Below.heap_alloc X o k hk
  have z1 : (w.alloc o1).heap.size = w.heap.size + 1 := by simp
  have z2 : ((w.alloc o1).alloc o2).heap.size = w.heap.size + 1 + 1 := by simp
  have z3 : (((w.alloc o1).alloc o2).alloc o3).heap.size = w.heap.size + 1 + 1 + 1 := by simp
  have z4 : ((((w.alloc o1).alloc o2).alloc o3).alloc o4).heap.size = w.heap.size + 1 + 1 + 1 + 1 := by simp
  refine ⟨?_, ?_, ?_, ?_, ?_, below_drew (((((((Below.refl _ w).alloc (Nat.le_refl _) _).alloc (by omega) _).alloc (by omega) _).alloc (by omega) _).alloc (by omega) _))⟩
  · show (((((w.alloc o1).alloc o2).alloc o3).alloc o4).alloc o5).heap[w.heap.size]? = _
    rw [old _ _ _ (by omega), old _ _ _ (by omega), old _ _ _ (by omega), old _ _ _ (by omega)]; exact new _ _ _ rfl
  · show (((((w.alloc o1).alloc o2).alloc o3).alloc o4).alloc o5).heap[w.heap.size + 1]? = _
    rw [old _ _ _ (by omega), old _ _ _ (by omega), old _ _ _ (by omega)]; exact new _ _ _ (by omega)
  · show (((((w.alloc o1).alloc o2).alloc o3).alloc o4).alloc o5).heap[w.heap.size + 1 + 1]? = _
    rw [old _ _ _ (by omega), old _ _ _ (by omega)]; exact new _ _ _ (by omega)
  · show (((((w.alloc o1).alloc o2).alloc o3).alloc o4).alloc o5).heap[w.heap.size + 1 + 1 + 1]? = _
    rw [old _ _ _ (by omega)]; exact new _ _ _ (by omega)
  · exact new _ _ _ (by omega)

set_option maxRecDepth 100000 in
set_option maxHeartbeats 8000000 in
theorem of_any (a b : ByteArray) (w : World) (ha : a.size ≤ 1000) (hb : b.size ≤ 1000) :
    Calls Try.prog 21 #[.string a, .string b] w fun e w' => ∃ ba bb vB tB gB : Nat, e = .returned (.pointer (some ⟨tB, 0, none⟩)) ∧ w.heap.size ≤ tB ∧ w.heap.size ≤ gB ∧ Tb a b ba bb vB tB gB (table a b) w' ∧ Below w.heap.size w w' := by
  refine (callsIn_wide (n := 5)).1 ?_
  obtain ⟨N, hN⟩ : ∃ N, N = (a.size + 1) * (b.size + 1) := ⟨_, rfl⟩
  have hN1 : N ≤ 1002001 := by
    have : (a.size + 1) * (b.size + 1) ≤ 1001 * 1001 := Nat.mul_le_mul (by omega) (by omega)
    omega
  have hmul : IntKind.i64.wrap (((a.size : Int) + 1) * ((b.size : Int) + 1)) = ((N : Nat) : Int) := by
    rw [i64_w]
    have e : (((a.size : Int) + 1) * ((b.size : Int) + 1)) = ((N : Nat) : Int) := by rw [hN]; simp
    rw [e]; unfold wrap64; omega
  have hmk := print_make (P := Try.prog) 41 3 .i64 8 Try.underlying41 info3 (by decide) N (by omega)
  have HN := Aside0.mk hN
  clear hN
  refine callsIn_of_wp_marks Try.func21 rfl trivial ?_ rfl
  simp only [Try.ntmps21, List.size_toArray, List.length_cons, List.length_nil, Nat.reduceAdd, Nat.reduceSub, Array.replicate_succ, Array.replicate_zero, List.push_toArray, List.append_toArray, List.nil_append, List.cons_append]
  gi_wp2
  rename_i Q' K hK
  have rest : ∀ (ba bb gB tB vB : Nat) (W1 : World), Tb a b ba bb vB tB gB (List.replicate N 0) W1 → w.heap.size ≤ ba → w.heap.size ≤ bb → w.heap.size ≤ gB → w.heap.size ≤ tB → w.heap.size ≤ vB → Below w.heap.size w W1 →
      K { tmps := #[.string a, .string b, .pointer (some ⟨ba, 0, none⟩), .pointer (some ⟨bb, 0, none⟩), .pointer none, .pointer (some ⟨vB, 0, none⟩), undef, undef, undef, .string a, .string b, .string a, .int .i64 a.size, .int .i64 (a.size + 1), .string b, .int .i64 b.size, .int .i64 (b.size + 1), .int .i64 N, .slice (some ⟨gB, 0, none⟩) N N, .agg #[.string a, .string b, .slice (some ⟨gB, 0, none⟩) N N], .pointer (some ⟨tB, 0, none⟩), undef, undef, undef, undef, undef, undef, undef, undef, undef, undef, undef, undef, undef, undef, undef, undef, undef, undef, undef, undef, undef, undef, undef, undef, undef, undef, undef, undef, undef, undef, undef, undef, undef, undef, undef, undef, undef, undef, undef, undef, undef, undef, undef, undef, undef, undef, undef, undef, undef, undef, undef, undef, undef, undef, undef, undef, undef, undef, undef, undef, undef, undef, undef, undef, undef], defers := [] } W1 := by
    clear hmk hmul
    intro ba bb gB tB vB W1 hT l1 l2 l3 l4 l5 hB
    refine hK _ _ ?_
    have HB1 := Aside0.mk hB
    clear hB
    have hca : W1.cell? ⟨ba, 0, none⟩ = some (.string a) := (blk_cell hT.ha 0).trans rfl
    have hcb : W1.cell? ⟨bb, 0, none⟩ = some (.string b) := (blk_cell hT.hb 0).trans rfl
    have HT1 := Aside0.mk hT
    clear hT
    gi_wp2_with (refine ⟨trivial, ?_⟩; gi_at_call 25; refine (callsIn_wide.2 (pairs_any _ _ _)).mono ?_; rintro e w' ⟨rfl, rfl⟩)
    obtain ⟨W2, hW2⟩ : ∃ W2, (W1.alloc (.cells #[.int .i64 (a.size : Int)] 3)).alloc (.cells #[.int .i64 (b.size : Int)] 3) = W2 := ⟨_, rfl⟩
    have hz2 : W2.heap.size = W1.heap.size + 2 := by rw [← hW2]; simp
    have hcn : W2.cell? ⟨W1.heap.size, 0, none⟩ = some (.int .i64 (a.size : Int)) := by rw [← hW2]; simp
    have hcm : W2.cell? ⟨W1.heap.size + 1, 0, none⟩ = some (.int .i64 (b.size : Int)) := by rw [← hW2]; simp
    have hb12 : Below W1.heap.size W1 W2 := by rw [← hW2]; exact ((Below.refl _ _).alloc (Nat.le_refl _) _).alloc (by simp) _
    have hT2 : Tb a b ba bb vB tB gB (List.replicate N 0) W2 := HT1.out.keep fun k o ho _ => (hb12.block k (blk_lt ho)).trans ho
    have hB2 : Below w.heap.size w W2 := HB1.out.trans (hb12.mono HB1.out.size)
    rw [hW2]
    refine wpIn_rangeFunc_ownF (α := Pr a.size b.size) rfl (by decide) (gf := 26) (lb := #[.pointer (some ⟨W1.heap.size, 0, none⟩), .pointer (some ⟨W1.heap.size + 1, 0, none⟩)]) rfl trivial (enters_of Try.func26 (by kernel_rfl) rfl)
      (iter_stops Fence.wide 4 trivial rfl (by decide) W1.heap.size (W1.heap.size + 1) a.size b.size (by omega) (by omega) W2 (by omega) (by omega) hcn hcm) Kp2.trans (Kp2.put (by omega) (by omega)) (Below.refl _ _) (fun _ => rfl)
      (fun pre W => Tb a b ba bb vB tB gB (fillT a b pre) W ∧ Below w.heap.size w W) (fun _ _ _ => False)
      (OwnFrom.and ((Tb.own (fillT a b)).from _) (ownFrom_below (Nat.le_refl _) (by have := hB2.size; omega)))
      (fun _ _ _ _ _ hs _ _ => hs)
      ⟨by have e : fillT a b [] = List.replicate N 0 := by rw [HN.out]; rfl
          rw [e]; exact hT2, hB2⟩
      (fun x => { tmps := #[.string a, .string b, .pointer (some ⟨ba, 0, none⟩), .pointer (some ⟨bb, 0, none⟩), .pointer none, .pointer (some ⟨vB, 0, none⟩), .int .i64 (x.1.1 : Int), .int .i64 (x.1.2 : Int), undef, .string a, .string b, .string a, .int .i64 a.size, .int .i64 (a.size + 1), .string b, .int .i64 b.size, .int .i64 (b.size + 1), .int .i64 N, .slice (some ⟨gB, 0, none⟩) N N, .agg #[.string a, .string b, .slice (some ⟨gB, 0, none⟩) N N], .pointer (some ⟨tB, 0, none⟩), .string a, .int .i64 a.size, .string b, .int .i64 b.size, .func (.func 26) #[] #[.pointer (some ⟨W1.heap.size, 0, none⟩), .pointer (some ⟨W1.heap.size + 1, 0, none⟩)], .int .i64 (x.1.1 : Int), .int .i64 (x.1.2 : Int), undef, undef, undef, undef, undef, undef, undef, undef, undef, undef, undef, undef, undef, undef, undef, undef, undef, undef, undef, undef, undef, undef, undef, undef, undef, undef, undef, undef, undef, undef, undef, undef, undef, undef, undef, undef, undef, undef, undef, undef, undef, undef, undef, undef, undef, undef, undef, undef, undef, undef, undef, undef, undef, undef, undef, undef, undef, undef], defers := [] }) ?assign ?body ?done ?stop
    case assign =>
      intro l x W K hK
      gi_wp2
      exact hK
    case body =>
      rintro l pre x W ⟨hT, hB⟩ _
      obtain ⟨⟨i, j⟩, hi, hj⟩ := x
      dsimp only at hi hj ⊢
      have hsn := fillT_snoc a b pre ⟨(i, j), hi, hj⟩
      have hlen := fillT_length a b pre
      generalize fillT a b pre = cost at hT hlen hsn
      have HS := Aside0.mk hsn
      clear hsn
      have hca : W.cell? ⟨ba, 0, none⟩ = some (.string a) := (blk_cell hT.ha 0).trans rfl
      have hcb : W.cell? ⟨bb, 0, none⟩ = some (.string b) := (blk_cell hT.hb 0).trans rfl
      have hcv : W.cell? ⟨vB, 0, none⟩ = some (.pointer (some ⟨tB, 0, none⟩)) := (blk_cell hT.hv 0).trans rfl
      have hct2 : W.cell? ⟨tB, 2, none⟩ = some (.slice (some ⟨gB, 0, none⟩) cost.length cost.length) := (blk_cell hT.ht 2).trans rfl
      have HT := Aside0.mk hT
      clear hT
      obtain ⟨q0, hq0⟩ : ∃ q, q = i * (b.size + 1) := ⟨_, rfl⟩
      have hqn : q0 + j < cost.length := by
        have : i * (b.size + 1) ≤ a.size * (b.size + 1) := Nat.mul_le_mul_right _ hi
        rw [hlen, Nat.add_mul a.size 1]; omega
      have hcl : cost.length ≤ 1002001 := by rw [hlen, ← HN.out]; exact hN1
      have hm0 : IntKind.i64.wrap ((i : Int) * ((b.size : Int) + 1)) = ((q0 : Nat) : Int) := by
        rw [i64_w]
        have e : (i : Int) * ((b.size : Int) + 1) = ((q0 : Nat) : Int) := by rw [hq0]; simp
        rw [e]; unfold wrap64; omega
      have HQ := Aside0.mk hq0
      have HLn := Aside0.mk hlen
      clear hq0 hlen
      have final : ∀ (X : World) (v : Int), (∃ n, X = (W.setCell ⟨gB, q0 + j, none⟩ (.int .i64 v)).drewN n) → v = val a b cost i j → KeepsOthers W X ∧ Kp2 W1.heap.size (W1.heap.size + 1) W X ∧
          (Tb a b ba bb vB tB gB (fillT a b (pre ++ [⟨(i, j), hi, hj⟩])) X ∧ Below w.heap.size w X) := by
        rintro _ v ⟨n, rfl⟩ hv
        have hk : KeepsOthers (W.setCell ⟨gB, q0 + j, none⟩ (.int .i64 v)) ((W.setCell ⟨gB, q0 + j, none⟩ (.int .i64 v)).drewN n) := ⟨Nat.le_refl _, fun _ _ h _ => h⟩
        have g1 : gB < W1.heap.size := blk_lt HT1.out.hg
        refine ⟨(KeepsOthers.setCell _ _ _).trans hk, ⟨Below.heap_setCell _ _ _ _ (by simp; omega), Below.heap_setCell _ _ _ _ (by simp; omega)⟩, ?_, pw_below_drewN (hB.setCell (p := ⟨gB, q0 + j, none⟩) l3 _) n⟩
        rw [HS.out, hv]
        unfold stepT
        dsimp only
        rw [← HQ.out]
        exact (HT.out.put (q0 + j) _).drewN n
      have hwb : IntKind.i64.wrap ((b.size : Int) + 1) = (b.size : Int) + 1 := by rw [i64_w]; unfold wrap64; omega
      have hws : IntKind.i64.wrap ((q0 : Int) + (j : Int)) = (q0 : Int) + (j : Int) := by rw [i64_w]; unfold wrap64; omega
      have hix0 : (0 ≤ (q0 : Int) + (j : Int)) = True := eq_true (by omega)
      have hix1 : ((q0 : Int) + (j : Int) < (cost.length : Int)) = True := eq_true (by omega)
      have hix2 : ((q0 : Int) + (j : Int)).toNat = q0 + j := by omega
      have hcs : W.cell? ⟨gB, q0 + j, none⟩ = some (.int .i64 (rd cost ((q0 : Int) + (j : Int)))) := by
        have := HT.out.cell ((q0 : Int) + (j : Int)) (by omega) (by omega)
        rwa [hix2] at this
      have hfg : ∀ k, W.frozen? ⟨gB, k, none⟩ = false := fun k => blk_frozen HT.out.hg k
      by_cases h1 : i = a.size
      · subst h1
        gi_wp2
        refine Rnd.region_tail 13 (by kernel_rfl) (by kernel_rfl) (fun ⟨_, _, h⟩ => h) (by kernel_rfl) ?_
        simp only [List.take_succ_cons, List.take_zero, List.drop_succ_cons, List.drop_zero]
        repeat still_step
        refine wpStill_nil ?_
        go_wp2
        exact final _ _ ⟨1, rfl⟩ (by unfold val; rw [if_pos rfl])
      · have h1b : ((i : Int) == (a.size : Int)) = false := by simpa using (by omega : ¬ (i : Int) = (a.size : Int))
        by_cases h2 : j = b.size
        · subst h2
          gi_wp2
          refine Rnd.region_tail 13 (by kernel_rfl) (by kernel_rfl) (fun ⟨_, _, h⟩ => h) (by kernel_rfl) ?_
          simp only [List.take_succ_cons, List.take_zero, List.drop_succ_cons, List.drop_zero]
          repeat still_step
          refine wpStill_nil ?_
          go_wp2
          exact final _ _ ⟨1, rfl⟩ (by unfold val; rw [if_neg h1, if_pos rfl])
        · have h2b : ((j : Int) == (b.size : Int)) = false := by simpa using (by omega : ¬ (j : Int) = (b.size : Int))
          have hil : i < a.size := by omega
          have hjl : j < b.size := by omega
          have hxa : ∀ h : i < a.size, ((a[i]'h).toNat : Int) = bt a i := bt_at a i
          have hxb : ∀ h : j < b.size, ((b[j]'h).toNat : Int) = bt b j := bt_at b j
          have hil' : ((i : Int) < (a.size : Int)) = True := eq_true (by omega)
          have hjl' : ((j : Int) < (b.size : Int)) = True := eq_true (by omega)
          by_cases h3 : bt a i = bt b j
          · have h3b : (bt a i == bt b j) = true := by simpa using h3
            gi_wp2
            refine Rnd.region_quiet (by kernel_rfl) (by kernel_rfl) (fun ⟨_, _, h⟩ => h) (by kernel_rfl) ?_
            repeat (go_big_quiet_step (fail))
            refine wpQuiet_nil ?_
            rintro _ ⟨nq, rfl⟩
            gi_wp2_with (refine ⟨trivial, ?_⟩; gi_at_call 22; refine (CallsIn.inRound l (callsIn_wide.2 (at_tb (HT.out.drewN nq) ha hb HLn.out _ _ (i + 1) (j + 1) (by simp) (by simp) (by omega) (by omega)))).mono ?_; rintro e w' ⟨rfl, ⟨nd, rfl⟩⟩)
            obtain ⟨X, hX⟩ : ∃ X, W.drewN (nq + nd) = X := ⟨_, rfl⟩
            have hT3 : Tb a b ba bb vB tB gB cost X := hX ▸ HT.out.drewN (nq + nd)
            have hXs : ∀ v, ∃ n, (X.setCell ⟨gB, q0 + j, none⟩ v).drew = (W.setCell ⟨gB, q0 + j, none⟩ v).drewN n := fun v => ⟨nq + nd + 1, by rw [← hX]; rfl⟩
            rw [hX]
            have HX := Aside0.mk hX
            clear hX
            obtain ⟨kca, kcb, kcv, kct2, kcs, kfg⟩ := hT3.facts (q0 + j) hqn
            gi_wp2
            refine Rnd.region_tail 13 (by kernel_rfl) (by kernel_rfl) (fun ⟨_, _, h⟩ => h) (by kernel_rfl) ?_
            simp only [List.take_succ_cons, List.take_zero, List.drop_succ_cons, List.drop_zero]
            repeat still_step
            refine wpStill_nil ?_
            go_wp2
            exact final _ _ (hXs _) (show rd cost ((↑i + 1) * (↑b.size + 1) + (↑j + 1)) = val a b cost i j by unfold val; rw [if_neg h1, if_neg h2, if_pos h3])
          · have h3b : (bt a i == bt b j) = false := by simpa using h3
            gi_wp2
            refine Rnd.region_quiet (by kernel_rfl) (by kernel_rfl) (fun ⟨_, _, h⟩ => h) (by kernel_rfl) ?_
            repeat (go_big_quiet_step (fail))
            refine wpQuiet_nil ?_
            rintro _ ⟨nq, rfl⟩
            obtain ⟨X, hX⟩ : ∃ X, W.drewN nq = X := ⟨_, rfl⟩
            have hT3 : Tb a b ba bb vB tB gB cost X := hX ▸ HT.out.drewN nq
            rw [hX]
            obtain ⟨kca, kcb, kcv, kct2, kcs, kfg⟩ := hT3.facts (q0 + j) hqn
            have HX := Aside0.mk hX
            clear hX
            gi_wp2
            refine Rnd.region_quiet (by kernel_rfl) (by kernel_rfl) (fun ⟨_, _, h⟩ => h) (by kernel_rfl) ?_
            repeat (go_big_quiet_step ((go_at_call 22; (refine Calls.quiet_of ((at_tb2 (hT3.drewN _) ha hb HLn.out _ _ ?_).mono fun _ _ h => ⟨h.1, h.2.out⟩)); first | exact ⟨i + 1, j, by simp, rfl, by omega, by omega⟩ | exact ⟨i, j + 1, rfl, by simp, by omega, by omega⟩)))
            refine wpQuiet_nil ?_
            rintro _ ⟨nr, rfl⟩
            obtain ⟨Y, hY⟩ : ∃ Y, X.drewN nr = Y := ⟨_, rfl⟩
            have hT4 : Tb a b ba bb vB tB gB cost Y := hY ▸ hT3.drewN nr
            have hYs : ∀ v, ∃ n, (Y.setCell ⟨gB, q0 + j, none⟩ v).drew = (W.setCell ⟨gB, q0 + j, none⟩ v).drewN n := fun v => ⟨nq + nr + 1, by rw [← hY, ← HX.out, World.drewN_drewN]; rfl⟩
            rw [hY]
            clear hY
            obtain ⟨lca, lcb, lcv, lct2, lcs, lfg⟩ := hT4.facts (q0 + j) hqn
            gi_wp2
            all_goals
              refine Rnd.region_tail 13 (by kernel_rfl) (by kernel_rfl) (fun ⟨_, _, h⟩ => h) (by kernel_rfl) ?_
              simp only [List.take_succ_cons, List.take_zero, List.drop_succ_cons, List.drop_zero]
              repeat still_step
              refine wpStill_nil ?_
              go_wp2
              refine final _ _ (hYs _) ?_
              unfold val
              rw [if_neg h1, if_neg h2, if_neg h3]
              congr 2
              rw [Int.min_def]
              split <;> omega
    case done =>
      rintro D ys W hD rfl ⟨hT, hB⟩ hKd
      have hcv : W.cell? ⟨vB, 0, none⟩ = some (.pointer (some ⟨tB, 0, none⟩)) := (blk_cell hT.hv 0).trans rfl
      gi_wp2
      refine ⟨by simp, .inl ⟨_, _, rfl, run_takeDeferred hKd, ?_⟩⟩
      refine ⟨_, results_tmp rfl _ _ _, ba, bb, vB, tB, gB, rfl, l4, l3, hT.keep fun k o ho hc => ?_, hB.trans (belowK_b (w := w) (Nat.le_refl _) W D _ _ (by have := hB2.size; omega) hKd rfl rfl)⟩
      exact (World.putObj_heap_other (fun e => by subst e; rw [hKd] at ho; cases ho; cases hc)).trans ho
    case stop =>
      rintro D c pre W _ _ h _
      exact h.elim
  gi_region
  all_goals show K _ _
  all_goals rw [made_eq] at *
  · obtain ⟨h1, h2, h3, h4, h5, h6⟩ := heap5 w (.cells #[.string a] 9) (.cells #[.string b] 9) (.cells (nums .i64 (List.replicate N 0)).toArray 3) (.cells #[.string a, .string b, .slice (some ⟨w.heap.size + 1 + 1, 0, none⟩) N N] 44) (.cells #[.pointer (some ⟨w.heap.size + 1 + 1 + 1, 0, none⟩)] 38)
    exact rest w.heap.size (w.heap.size + 1) (w.heap.size + 1 + 1) (w.heap.size + 1 + 1 + 1) (w.heap.size + 1 + 1 + 1 + 1) _ ⟨h1, h2, h5, by rw [List.length_replicate]; exact h4, h3⟩ (by omega) (by omega) (by omega) (by omega) (by omega) h6
  · obtain ⟨h1, h2, h3, h4, h5, h6⟩ := heap5 w (.cells #[.string a] 9) (.cells #[.string b] 9) (.cells (nums .i64 (List.replicate N 0)).toArray 3) (.cells #[.pointer (some ⟨w.heap.size + 1 + 1 + 1 + 1, 0, none⟩)] 38) (.cells #[.string a, .string b, .slice (some ⟨w.heap.size + 1 + 1, 0, none⟩) N N] 44)
    exact rest w.heap.size (w.heap.size + 1) (w.heap.size + 1 + 1) (w.heap.size + 1 + 1 + 1 + 1) (w.heap.size + 1 + 1 + 1) _ ⟨h1, h2, h4, by rw [List.length_replicate]; exact h5, h3⟩ (by omega) (by omega) (by omega) (by omega) (by omega) h6
  · obtain ⟨h1, h2, h3, h4, h5, h6⟩ := heap5 w (.cells #[.string a] 9) (.cells #[.string b] 9) (.cells #[.pointer (some ⟨w.heap.size + 1 + 1 + 1 + 1, 0, none⟩)] 38) (.cells (nums .i64 (List.replicate N 0)).toArray 3) (.cells #[.string a, .string b, .slice (some ⟨w.heap.size + 1 + 1 + 1, 0, none⟩) N N] 44)
    exact rest w.heap.size (w.heap.size + 1) (w.heap.size + 1 + 1 + 1) (w.heap.size + 1 + 1 + 1 + 1) (w.heap.size + 1 + 1) _ ⟨h1, h2, h3, by rw [List.length_replicate]; exact h5, h4⟩ (by omega) (by omega) (by omega) (by omega) (by omega) h6
end Go.Proofs.Ythhgfagnallcnaa.Of
