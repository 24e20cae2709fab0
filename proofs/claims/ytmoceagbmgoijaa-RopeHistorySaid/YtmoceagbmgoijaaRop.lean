/- The walks over the package rope. -/
import Derived.Test.YtmoceagbmgoijaaProg
import Derived.Test.YtmoceagbmgoijaaWMore
import Derived.Test.YtmoceagbmgoijaaWGuard
import Derived.Test.YtmoceagbmgoijaaWLast
import Derived.Test.YtmoceagbmgoijaaWTab
import Derived.Test.YtmoceagbmgoijaaRnd
import Derived.Test.YtmoceagbmgoijaaTre
import Derived.Test.YtmoceagbmgoijaaShf
import Derived.Test.YtmoceagbmgoijaaBld
import Derived.BigCall
import Derived.StillTailTactics
import Derived.WalkKit
import Derived.Outline
namespace Go.Proofs.Ytmoceagbmgoijaa.Rop
open Go.RowKit Go.Proofs.YtmoceagbmgoijaaW.PrintWords Go.Proofs.YtmoceagbmgoijaaW.PrintLast Go.Proofs.YtmoceagbmgoijaaW.PrintMore Go.Proofs.Ytmoceagbmgoijaa.Tre
attribute [local go_sem] max2_int min2_int max_two min_two max_three min_three max_four min_four
set_option linter.unusedVariables false
set_option linter.unusedSimpArgs false

/-- a tree in memory: its root's block -/
def TrN : T → Nat → World → Prop
  | .leaf s, b, W => W.heap[b]? = some (.cells #[.string s, .pointer none, .pointer none, .int .i64 s.size, .int .i64 0] 64 (0, 0))
  | .node l r, b, W => ∃ bl br : Nat, W.heap[b]? = some (.cells #[.string ⟨#[]⟩, .pointer (some ⟨bl, 0, none⟩), .pointer (some ⟨br, 0, none⟩), .int .i64 (T.node l r).size, .int .i64 (T.node l r).height] 64 (0, 0)) ∧ TrN l bl W ∧ TrN r br W
/-- what a pointer to a node holds -/
def At (W : World) (v : Value) : Option T → Prop
  | none => v = .pointer none
  | some t => ∃ b : Nat, v = .pointer (some ⟨b, 0, none⟩) ∧ TrN t b W
theorem TrN.keep {W W' : World} (hk : ∀ (k : Nat) (cs : Array Value), W.heap[k]? = some (.cells cs 64 (0, 0)) → W'.heap[k]? = some (.cells cs 64 (0, 0))) : ∀ (t : T) (b : Nat), TrN t b W → TrN t b W'
  | .leaf s, b, h => hk _ _ h
  | .node l r, b, ⟨bl, br, h, hl, hr⟩ => ⟨bl, br, hk _ _ h, TrN.keep hk l bl hl, TrN.keep hk r br hr⟩
theorem lt_of_some {W : World} {k : Nat} {o : Obj} (h : W.heap[k]? = some o) : k < W.heap.size := by
  rcases Nat.lt_or_ge k W.heap.size with h' | h'
  · exact h'
  · simp [Array.getElem?_eq_none h'] at h
theorem At.keep {W W' : World} (hk : ∀ (k : Nat) (cs : Array Value), W.heap[k]? = some (.cells cs 64 (0, 0)) → W'.heap[k]? = some (.cells cs 64 (0, 0))) {v : Value} {o : Option T} (h : At W v o) : At W' v o := by
  cases o with
  | none => exact h
  | some t => obtain ⟨b, rfl, h⟩ := h; exact ⟨b, rfl, TrN.keep hk t b h⟩
theorem At.below {W W' : World} (hb : Below W.heap.size W W') {v : Value} {o : Option T} (h : At W v o) : At W' v o :=
  h.keep fun k cs hc => (hb.block k (lt_of_some hc)).trans hc
theorem At.alloc {W : World} (o' : Obj) {v : Value} {o : Option T} (h : At W v o) : At (W.alloc o') v o :=
  h.keep fun k cs hc => (Below.heap_alloc W o' k (lt_of_some hc)).trans hc
theorem At.set {W : World} {g t : Nat} {cells : Array Value} {z : Nat × Nat} (hg : W.heap[g]? = some (.cells cells t z)) (ht : t ≠ 64) (i : Nat) (u : Value) {v : Value} {o : Option T} (h : At W v o) : At (W.setCell ⟨g, i, none⟩ u) v o :=
  h.keep fun k cs hc => (Below.heap_setCell W ⟨g, i, none⟩ u k (fun e => by subst e; rw [hc] at hg; injection hg with hg; injection hg with _ h2 _; exact ht h2.symm)).trans hc
theorem At.drew {W : World} {v : Value} {o : Option T} (h : At W v o) : At W.drew v o := At.keep (W := W) (fun k cs hc => show W.drew.heap[k]? = _ from hc) h
theorem At.drewN {W : World} (n : Nat) {v : Value} {o : Option T} (h : At W v o) : At (W.drewN n) v o := At.keep (W := W) (fun k cs hc => show (W.drewN n).heap[k]? = _ from hc) h

/-- what stands in a node's text -/
def T.own : T → ByteArray
  | .leaf s => s
  | .node _ _ => ⟨#[]⟩
theorem TrN.blk {W : World} {t : T} {b : Nat} (h : TrN t b W) : ∃ vl vr : Value, W.heap[b]? = some (.cells #[.string (T.own t), vl, vr, .int .i64 t.size, .int .i64 t.height] 64 (0, 0)) := by
  cases t with
  | leaf s => exact ⟨_, _, h⟩
  | node l r => obtain ⟨bl, br, h, _, _⟩ := h; exact ⟨_, _, h⟩
set_option maxHeartbeats 1000000 in
set_option maxRecDepth 100000 in
theorem leaf_any (s : ByteArray) (hs : s.size ≤ 64) (w : World) :
    Calls Try.prog 34 #[.string s] w fun e w' => ∃ v o, e = .returned v ∧ At w' v o ∧ txt o = s ∧ Ok o ∧ hgt o = 0 ∧ Below w.heap.size w w' := by
  go_enter Try.func34, Try.ntmps34
  go_wp2
  · rename_i h
    have e : s.toList = [] := by simpa using h
    rw [ByteArray.toList_eq] at e
    go_ret
    exact ⟨_, none, rfl, rfl, (size_zero (by rw [← B_len]; unfold B; rw [e]; rfl)).symm, trivial, rfl, Below.refl _ _⟩
  · rename_i h
    have e : s.toList ≠ [] := by simpa using h
    rw [ByteArray.toList_eq] at e
    have hp : 1 ≤ s.size := by
      rcases Nat.eq_zero_or_pos s.size with z | z
      · exact absurd (List.length_eq_zero_iff.1 z) e
      · exact z
    go_ret
    exact ⟨_, some (.leaf s), rfl, ⟨w.heap.size, rfl, World.alloc_heap_new _ _⟩, rfl, OK.leaf hp hs, rfl, (Below.refl _ w).alloc (Nat.le_refl _) _⟩

set_option maxHeartbeats 1000000 in
set_option maxRecDepth 100000 in
theorem inner_any (l r : T) (bl br : Nat) (w : World) (hl : TrN l bl w) (hr : TrN r br w) (hs : l.size + r.size ≤ 100000) (hh : l.height ≤ 100000) (hg : r.height ≤ 100000) :
    Calls Try.prog 35 #[.pointer (some ⟨bl, 0, none⟩), .pointer (some ⟨br, 0, none⟩)] w fun e w' => ∃ b : Nat, e = .returned (.pointer (some ⟨b, 0, none⟩)) ∧ TrN (.node l r) b w' ∧ Below w.heap.size w w' := by
  obtain ⟨vl, vr, h1⟩ := hl.blk
  obtain ⟨ul, ur, h2⟩ := hr.blk
  have s1 : w.cell? ⟨bl, 3, none⟩ = some (.int .i64 l.size) := by rw [Lib.cell_of_heap h1]; rfl
  have s2 : w.cell? ⟨br, 3, none⟩ = some (.int .i64 r.size) := by rw [Lib.cell_of_heap h2]; rfl
  have g1 : w.cell? ⟨bl, 4, none⟩ = some (.int .i64 l.height) := by rw [Lib.cell_of_heap h1]; rfl
  have g2 : w.cell? ⟨br, 4, none⟩ = some (.int .i64 r.height) := by rw [Lib.cell_of_heap h2]; rfl
  have c1 : IntKind.i64.wrap ((l.size : Int) + (r.size : Int)) = ((T.node l r).size : Int) := by rw [i64_w, T.size]; unfold wrap64; omega
  have fin : ∀ (W : World), (∃ cs : Array Value, cs = #[.string ⟨#[]⟩, .pointer (some ⟨bl, 0, none⟩), .pointer (some ⟨br, 0, none⟩), .int .i64 (T.node l r).size, .int .i64 (T.node l r).height] ∧ (W = (w.drew.alloc (.cells cs 64)).drew ∨ W = (w.alloc (.cells cs 64)).drew ∨ W = w.drew.alloc (.cells cs 64))) → TrN (.node l r) w.heap.size W ∧ Below w.heap.size w W := by
    rintro W ⟨cs, rfl, h⟩
    have key : (W.heap[w.heap.size]? = some (.cells #[.string ⟨#[]⟩, .pointer (some ⟨bl, 0, none⟩), .pointer (some ⟨br, 0, none⟩), .int .i64 (T.node l r).size, .int .i64 (T.node l r).height] 64 (0, 0))) ∧ Below w.heap.size w W := by
      rcases h with rfl | rfl | rfl
      · exact ⟨World.alloc_heap_new w.drew _, below_drew ((below_drew (Below.refl _ w)).alloc (Nat.le_refl _) _)⟩
      · exact ⟨World.alloc_heap_new w _, below_drew ((Below.refl _ w).alloc (Nat.le_refl _) _)⟩
      · exact ⟨World.alloc_heap_new w.drew _, (below_drew (Below.refl _ w)).alloc (Nat.le_refl _) _⟩
    have kp : ∀ (k : Nat) (cs : Array Value), w.heap[k]? = some (.cells cs 64 (0, 0)) → W.heap[k]? = some (.cells cs 64 (0, 0)) := fun k cs hc => (key.2.block k (lt_of_some hc)).trans hc
    exact ⟨⟨bl, br, key.1, TrN.keep kp _ _ hl, TrN.keep kp _ _ hr⟩, key.2⟩
  rcases Nat.lt_or_ge l.height r.height with c | c
  · have hm : ((l.height : Int) < (r.height : Int)) = True := eq_true (by omega)
    have c2 : IntKind.i64.wrap (1 + (r.height : Int)) = ((T.node l r).height : Int) := by rw [i64_w, T.height, Nat.max_eq_right (by omega)]; unfold wrap64; omega
    have FIN := Aside0.mk fin
    clear fin
    go_enter Try.func35, Try.ntmps35
    go_wp2_with (fail)
    go_still_tail 22, (by kernel_rfl)
    go_wp2
    go_ret
    exact ⟨w.heap.size, rfl, FIN.out _ ⟨_, rfl, by first | exact .inl rfl | exact .inr (.inl rfl) | exact .inr (.inr rfl)⟩⟩
  · have hm : ((l.height : Int) < (r.height : Int)) = False := eq_false (by omega)
    have c2 : IntKind.i64.wrap (1 + (l.height : Int)) = ((T.node l r).height : Int) := by rw [i64_w, T.height, Nat.max_eq_left (by omega)]; unfold wrap64; omega
    have FIN := Aside0.mk fin
    clear fin
    go_enter Try.func35, Try.ntmps35
    go_wp2_with (fail)
    go_still_tail 22, (by kernel_rfl)
    go_wp2
    go_ret
    exact ⟨w.heap.size, rfl, FIN.out _ ⟨_, rfl, by first | exact .inl rfl | exact .inr (.inl rfl) | exact .inr (.inr rfl)⟩⟩
theorem bitLenAux_le : ∀ k x : Nat, Lib.bitLenAux k x ≤ k
  | 0, x => Nat.le_refl _
  | k + 1, x => by
    unfold Lib.bitLenAux
    split
    · omega
    · have := bitLenAux_le k (x / 2); omega
set_option maxHeartbeats 1000000 in
set_option maxRecDepth 100000 in
theorem bound_any (n : Nat) (h : n ≤ 100000) (w : World) : Calls Try.prog 36 #[.int .i64 n] w fun e w' => e = .returned (.int .i64 (bnd n)) ∧ w' = w := by
  by_cases c : n ≤ 64
  · have c1 : ((n : Int) ≤ 64) = True := eq_true (by omega)
    go_enter Try.func36, Try.ntmps36
    go_wp2
    go_ret
    exact ⟨by unfold bnd; rw [if_pos c]; rfl, rfl⟩
  · have c1 : ((n : Int) ≤ 64) = False := eq_false (by omega)
    have e1 : (((n : Int) + 64 - 1) / 64 - 1).toNat = (n + 63) / 64 - 1 := by omega
    have hb : Lib.bitLen ((n + 63) / 64 - 1) ≤ 64 := bitLenAux_le 64 _
    go_enter Try.func36, Try.ntmps36
    go_wp2_with (go_at_call 40; refine (Shf.bits_Len _ _ (by omega) (by omega)).mono ?_; rw [e1]; rintro e w' ⟨rfl, rfl⟩)
    generalize hq : Lib.bitLen ((n + 63) / 64 - 1) = q at *
    go_wp2
    go_ret
    have e2 : IntKind.i64.wrap (IntKind.i64.wrap (2 * (q : Int)) + 2) = ((2 * q + 2 : Nat) : Int) := by rw [i64_w, i64_w]; unfold wrap64; omega
    refine ⟨?_, rfl⟩
    unfold bnd bl
    rw [if_neg c, hq]

    first | (simp only [e2]; rfl) | rfl
set_option maxHeartbeats 1000000 in
set_option maxRecDepth 100000 in
theorem text1_any (B b : Nat) (bs : List Value) (s : ByteArray) (w : World) (h : Lib.IsBuilder 70 5 B b bs w) (hlen : bs.length + s.size ≤ 140737488355328) (hBw : B ≤ w.heap.size) :
    Calls Try.prog 37 #[.string s, .pointer (some ⟨b, 0, none⟩)] w fun e w' => e = .returned (.bool true) ∧ Lib.IsBuilder 70 5 B b (bs ++ Lib.strCells s) w' ∧ Below B w w' := by
  go_enter Try.func37, Try.ntmps37
  go_wp2_with (go_at_call 38; refine (Bld.write B b bs s _ h hlen hBw).mono ?_; rintro e w' ⟨rfl, h1, h2⟩)
  go_wp2
  go_ret
  exact ⟨rfl, .inr h1, h2⟩
theorem strCells_append (a b : ByteArray) : Lib.strCells (a ++ b) = Lib.strCells a ++ Lib.strCells b := by
  simp [Lib.strCells, ByteArray.data_append]
theorem strCells_eq (s : ByteArray) : Lib.strCells s = Lib.byteCells s.data.toList := by
  simp [Lib.strCells, Lib.byteCells]
set_option maxHeartbeats 2000000 in
set_option maxRecDepth 100000 in
/-- walk with the closure of text: the tree's text is written behind what the builder holds. -/
theorem walk_text (B b : Nat) (w0 : World) (hB : w0.heap.size = B) : ∀ (t : T) (k : Nat) (bs : List Value) (w : World), TrN t k w0 → Below B w0 w → Lib.IsBuilder 70 5 B b bs w → bs.length + t.size ≤ 140737488355328 →
    Calls Try.prog 33 #[.pointer (some ⟨k, 0, none⟩), .func (.func 37) #[] #[.pointer (some ⟨b, 0, none⟩)]] w fun e w' => e = .returned (.bool true) ∧ Lib.IsBuilder 70 5 B b (bs ++ Lib.strCells t.text) w' ∧ Below B w w'
  | .leaf s, k, bs, w, ht, hw, hi, hl => by
    have hk : w.heap[k]? = some (.cells #[.string s, .pointer none, .pointer none, .int .i64 s.size, .int .i64 0] 64 (0, 0)) := (hw.block k (by have := lt_of_some ht; omega)).trans ht
    have c0 : w.cell? ⟨k, 0, none⟩ = some (.string s) := by rw [Lib.cell_of_heap hk]; rfl
    have c1 : w.cell? ⟨k, 1, none⟩ = some (.pointer none) := by rw [Lib.cell_of_heap hk]; rfl
    have hs : B ≤ w.heap.size := by have := hw.size; omega
    go_enter Try.func33, Try.ntmps33
    go_wp2_with (go_at_call 37; refine (text1_any B b bs s _ hi hl hs).mono ?_; rintro e w' ⟨rfl, h1, h2⟩)
    go_ret
    exact ⟨rfl, h1, h2⟩
  | .node l r, k, bs, w, ht, hw, hi, hl => by
    obtain ⟨bl, br, h0, hL, hR⟩ := ht
    have hk : w.heap[k]? = some (.cells #[.string ⟨#[]⟩, .pointer (some ⟨bl, 0, none⟩), .pointer (some ⟨br, 0, none⟩), .int .i64 (T.node l r).size, .int .i64 (T.node l r).height] 64 (0, 0)) := (hw.block k (by have := lt_of_some h0; omega)).trans h0
    have c1 : w.cell? ⟨k, 1, none⟩ = some (.pointer (some ⟨bl, 0, none⟩)) := by rw [Lib.cell_of_heap hk]; rfl
    have hs : l.size + r.size = (T.node l r).size := rfl
    have ihl := walk_text B b w0 hB l bl bs w hL hw hi (by omega)
    go_enter Try.func33, Try.ntmps33
    go_wp2_with (go_at_call 33; refine ihl.mono ?_)
    rintro e w1 ⟨rfl, h1, h2⟩
    have hw1 := hw.trans h2
    have hk1 : w1.heap[k]? = some (.cells #[.string ⟨#[]⟩, .pointer (some ⟨bl, 0, none⟩), .pointer (some ⟨br, 0, none⟩), .int .i64 (T.node l r).size, .int .i64 (T.node l r).height] 64 (0, 0)) := (hw1.block k (by have := lt_of_some h0; omega)).trans h0
    have d2 : w1.cell? ⟨k, 2, none⟩ = some (.pointer (some ⟨br, 0, none⟩)) := by rw [Lib.cell_of_heap hk1]; rfl
    have hll : (bs ++ Lib.strCells l.text).length = bs.length + l.size := by rw [List.length_append, Lib.strCells_length, l.text_size]
    have ihr := walk_text B b w0 hB r br (bs ++ Lib.strCells l.text) w1 hR hw1 h1 (by omega)
    go_wp2_with (go_at_call 33; refine ihr.mono ?_)
    rintro e w2 ⟨rfl, h3, h4⟩
    go_wp2
    go_ret
    exact ⟨rfl, by rw [T.text, strCells_append, ← List.append_assoc]; exact h3, h2.trans h4⟩
set_option maxHeartbeats 1000000 in
set_option maxRecDepth 100000 in
theorem walk_none (f : Value) (w : World) : Calls Try.prog 33 #[.pointer none, f] w fun e w' => e = .returned (.bool true) ∧ w' = w := by
  go_enter Try.func33, Try.ntmps33
  go_wp2
  go_ret
  exact ⟨rfl, rfl⟩
set_option maxHeartbeats 2000000 in
set_option maxRecDepth 100000 in
theorem text_any (o : Option T) (v : Value) (w : World) (h : At w v o) (hs : siz o ≤ 140737488355328) :
    Calls Try.prog 31 #[v] w fun e w' => e = .returned (.string (txt o)) ∧ Below w.heap.size w w' := by
  have hb : Below w.heap.size w (w.alloc (.cells #[.pointer none, .slice none 0 0] 70)) := (Below.refl _ w).alloc (Nat.le_refl _) _
  have hi := Lib.fresh_isBuilder 70 5 w
  have hw : Calls Try.prog 33 #[v, .func (.func 37) #[] #[.pointer (some ⟨w.heap.size, 0, none⟩)]] (w.alloc (.cells #[.pointer none, .slice none 0 0] 70)) fun e w' => e = .returned (.bool true) ∧ Lib.IsBuilder 70 5 w.heap.size w.heap.size (Lib.strCells (txt o)) w' ∧ Below w.heap.size w w' := by
    cases o with
    | none =>
      obtain rfl : v = .pointer none := h
      refine (walk_none _ _).mono ?_
      rintro e w' ⟨rfl, rfl⟩
      exact ⟨rfl, hi, hb⟩
    | some t =>
      obtain ⟨b, rfl, ht⟩ := h
      refine (walk_text w.heap.size w.heap.size w rfl t b [] _ ht hb hi (by simp only [List.length_nil]; change t.size ≤ _ at hs; omega)).mono ?_
      rintro e w' ⟨rfl, h1, h2⟩
      rw [List.nil_append] at h1
      exact ⟨rfl, h1, hb.trans h2⟩
  clear hb hi
  go_enter Try.func31, Try.ntmps31
  go_wp2_with (fail)
  go_at_call 33
  refine hw.mono ?_
  rintro e w1 ⟨rfl, h1, h2⟩
  have hz := h2.size
  rw [strCells_eq] at h1
  go_wp2_with (go_at_call 39; refine (Shf.Builder_String_any w.heap.size w.heap.size _ _ h1 hz).mono ?_; rintro e w2 ⟨rfl, h3⟩)
  go_wp2
  go_ret
  exact ⟨rfl, h2.trans h3⟩
/-- what build leaves -/
def Built (s : ByteArray) (w : World) (e : Ending) (w' : World) : Prop := ∃ v o, e = .returned v ∧ At w' v o ∧ txt o = s ∧ Ok o ∧ (∀ k : Nat, s.size ≤ 64 * 2 ^ k → hgt o ≤ k) ∧ Below w.heap.size w w'
/-- the two halves, joined -/
theorem halves (s : ByteArray) (m : Nat) (hm : m = (s.size + 63) / 64 / 2 * 64) (c : 64 < s.size) (hs : s.size ≤ 100000) (w wd : World) (hd : Below w.heap.size w wd) (v1 v2 : Value) (w1 w2 : World) (o1 o2 : Option T)
    (a1 : At w1 v1 o1) (t1 : txt o1 = s.extract 0 m) (k1 : Ok o1) (g1 : ∀ k : Nat, (s.extract 0 m).size ≤ 64 * 2 ^ k → hgt o1 ≤ k) (b1 : Below wd.heap.size wd w1)
    (a2 : At w2 v2 o2) (t2 : txt o2 = s.extract m s.size) (k2 : Ok o2) (g2 : ∀ k : Nat, (s.extract m s.size).size ≤ 64 * 2 ^ k → hgt o2 ≤ k) (b2 : Below w1.heap.size w1 w2) :
    Calls Try.prog 35 #[v1, v2] w2 fun e w' => ∃ v o, e = .returned v ∧ At w' v o ∧ txt o = s ∧ Ok o ∧ (∀ k : Nat, s.size ≤ 64 * 2 ^ k → hgt o ≤ k) ∧ Below w.heap.size w w' := by
  have m1 : 64 ≤ m := by omega
  have m2 : m < s.size := by omega
  have s1 : (s.extract 0 m).size = m := by rw [ByteArray.size_extract]; omega
  have s2 : (s.extract m s.size).size = s.size - m := by rw [ByteArray.size_extract]; omega
  cases o1 with
  | none => have := congrArg ByteArray.size t1; rw [s1] at this; change 0 = m at this; omega
  | some l =>
    cases o2 with
    | none => have := congrArg ByteArray.size t2; rw [s2] at this; change 0 = s.size - m at this; omega
    | some r =>
      obtain ⟨bl, rfl, hl⟩ := a1
      obtain ⟨br, rfl, hr⟩ := a2
      have hl2 : TrN l bl w2 := TrN.keep (fun k cs hc => (b2.block k (lt_of_some hc)).trans hc) l bl hl
      have z1 : l.size = m := by have := congrArg ByteArray.size t1; rw [s1] at this; rw [← l.text_size]; exact this
      have z2 : r.size = s.size - m := by have := congrArg ByteArray.size t2; rw [s2] at this; rw [← r.text_size]; exact this
      have hh : ∀ k : Nat, s.size ≤ 64 * 2 ^ k → (T.node l r).height ≤ k := fun k hk => by
        cases k with
        | zero => omega
        | succ k =>
          rw [Nat.pow_succ] at hk
          have q1 : l.height ≤ k := g1 k (by rw [s1]; omega)
          have q2 : r.height ≤ k := g2 k (by rw [s2]; omega)
          rw [T.height]; omega
      have hz : (T.node l r).size = s.size := by rw [T.size]; omega
      have hbnd : (T.node l r).height ≤ bnd s.size := bnd_of_pow hs hh
      have h17 : (T.node l r).height ≤ 17 := hh 17 (by omega)
      rw [T.height] at h17
      refine (inner_any l r bl br w2 hl2 hr (by omega) (by omega) (by omega)).mono ?_
      rintro e w3 ⟨b, rfl, h1, h2⟩
      refine ⟨_, some (.node l r), rfl, ⟨b, rfl, h1⟩, ?_, OK.node k1 k2 (by omega) (by rw [hz]; exact hbnd), hh, ?_⟩
      · show l.text ++ r.text = s
        rw [show l.text = s.extract 0 m from t1, show r.text = s.extract m s.size from t2, cut_join s m (by omega)]
      · have e1 := hd.size
        have e2 := b1.size
        have e3 := b2.size
        exact ((hd.trans (b1.mono e1)).trans (b2.mono (by omega))).trans (h2.mono (by omega))
set_option maxHeartbeats 2000000 in
set_option maxRecDepth 100000 in
theorem build_step (s : ByteArray) (hs : s.size ≤ 100000) (ih : ∀ t : ByteArray, t.size < s.size → t.size ≤ 100000 ∧ ∀ w : World, Calls Try.prog 28 #[.string t] w fun e w' => Built t w e w') (w : World) : Calls Try.prog 28 #[.string s] w fun e w' => Built s w e w'
    := by
    by_cases c : s.size ≤ 64
    · have c1 : ((s.size : Int) ≤ 64) = True := eq_true (by omega)
      go_enter Try.func28, Try.ntmps28
      go_wp2_with (go_at_call 34; refine (leaf_any s c w).mono ?_; rintro e w' ⟨v, o, rfl, h1, h2, h3, h4, h5⟩)
      go_ret
      exact ⟨v, o, rfl, h1, h2, h3, fun k _ => by omega, h5⟩
    · have c1 : ((s.size : Int) ≤ 64) = False := eq_false (by omega)
      obtain ⟨m, hm⟩ : ∃ m : Nat, m = (s.size + 63) / 64 / 2 * 64 := ⟨_, rfl⟩
      have J : ∀ (v1 v2 : Value) (w1 w2 : World) (o1 o2 : Option T), Aside0 _ := fun v1 v2 w1 w2 o1 o2 => Aside0.mk (halves s m hm (by omega) hs w w.drew (below_drew (Below.refl _ w)) v1 v2 w1 w2 o1 o2)
      have A1 : Aside0 ((s.extract 0 m).size < s.size) := Aside0.mk (by rw [ByteArray.size_extract]; omega)
      have A2 : Aside0 ((s.extract m s.size).size < s.size) := Aside0.mk (by rw [ByteArray.size_extract]; omega)
      have m0 : (0 ≤ (m : Int)) = True := eq_true (by omega)
      have m1 : ((m : Int) ≤ (s.size : Int)) = True := eq_true (by omega)
      have mm : ((s.size : Int) + 64 - 1) / 64 / 2 * 64 = (m : Int) := by omega
      clear c hm
      go_enter Try.func28, Try.ntmps28
      go_wp2_with (fail)
      refine start_ (n := 10) (S := fun _ => True) (ds := []) #[false, false, false, false, false, false, false, false, false, false] (by kernel_rfl) rfl rfl trivial (fun hHeld => ?_)
      refine with_tab (T := rtab .any (opsOf Try.f28 5)) rfl (fun HT_ => ?_)
      refine pure_ (i := 0) (N := some 18) (v := ?_) (a' := ?_) #[true, false, false, false, false, false, false, false, false, false] rfl rfl (any_of HT_.out (by kernel_rfl)) (fun _ _ _ h => h) (Or.inl ⟨by rfl, ?_⟩) ?_ ?_
      rotate_left
      · intro w'
        go_simp
        with_reducible rfl
      rotate_left
      · simp only [Act.put, List.setIfInBounds_toArray, List.set_cons_zero, List.set_cons_succ, i64_w, i32_w]
        rfl
      refine pure_ (i := 1) (N := some 19) (v := ?_) (a' := ?_) #[true, true, false, false, false, false, false, false, false, false] rfl rfl (any_of HT_.out (by kernel_rfl)) (fun _ _ _ h => h) (Or.inl ⟨by rfl, ?_⟩) ?_ ?_
      rotate_left
      · intro w'
        go_simp
        with_reducible rfl
      rotate_left
      · simp only [Act.put, List.setIfInBounds_toArray, List.set_cons_zero, List.set_cons_succ, i64_w, i32_w]
        rfl
      refine pure_ (i := 2) (N := some 20) (v := ?_) (a' := ?_) #[true, true, true, false, false, false, false, false, false, false] rfl rfl (any_of HT_.out (by kernel_rfl)) (fun _ _ _ h => h) (Or.inl ⟨by rfl, ?_⟩) ?_ ?_
      rotate_left
      · intro w'
        go_simp
        with_reducible rfl
      rotate_left
      · simp only [Act.put, List.setIfInBounds_toArray, List.set_cons_zero, List.set_cons_succ, i64_w, i32_w]
        rfl
      refine pure_ (i := 4) (N := some 22) (v := ?_) (a' := ?_) #[true, true, true, false, true, false, false, false, false, false] rfl rfl (any_of HT_.out (by kernel_rfl)) (fun _ _ _ h => h) (Or.inl ⟨by rfl, ?_⟩) ?_ ?_
      rotate_left
      · intro w'
        go_simp
        with_reducible rfl
      rotate_left
      · simp only [Act.put, List.setIfInBounds_toArray, List.set_cons_zero, List.set_cons_succ, i64_w, i32_w]
        rfl
      refine pure_ (i := 5) (N := some 23) (v := ?_) (a' := ?_) #[true, true, true, false, true, true, false, false, false, false] rfl rfl (any_of HT_.out (by kernel_rfl)) (fun _ _ _ h => h) (Or.inl ⟨by rfl, ?_⟩) ?_ ?_
      rotate_left
      · intro w'
        go_simp
        with_reducible rfl
      rotate_left
      · simp only [Act.put, List.setIfInBounds_toArray, List.set_cons_zero, List.set_cons_succ, i64_w, i32_w]
        rfl
      refine pure_ (i := 6) (N := some 24) (v := ?_) (a' := ?_) #[true, true, true, false, true, true, true, false, false, false] rfl rfl (any_of HT_.out (by kernel_rfl)) (fun _ _ _ h => h) (Or.inl ⟨by rfl, ?_⟩) ?_ ?_
      rotate_left
      · intro w'
        go_simp
        with_reducible rfl
      rotate_left
      · simp only [Act.put, List.setIfInBounds_toArray, List.set_cons_zero, List.set_cons_succ, i64_w, i32_w]
        rfl
      refine one_ (i := 3) (N := some 21) #[true, true, true, true, true, true, true, false, false, false] rfl rfl (one_of HT_.out (by kernel_rfl)) (by decide) (fun K hK => ?_)
      refine goes_ Try.func28 (by kernel_rfl) rfl #[.string (s.extract 0 m)] (by rfl) rfl rfl (by (try simp only [List.map_toArray, List.map_cons, List.map_nil]); first | done | rfl) ?_
      refine ((ih _ A1.out).2 _).mono ?_
      rintro e w1 ⟨v1, o1, rfl, a1, t1, k1, g1, b1⟩
      refine ⟨_, rfl, ?_⟩
      refine hK.out _ _ trivial (fun hHeld => ?_)
      clear hK K
      refine norm_ (a' := ?_) ?_ ?_
      rotate_left
      · show Act.put _ (some 21) _ = _
        simp only [Act.put, List.setIfInBounds_toArray, List.set_cons_zero, List.set_cons_succ, i64_w, i32_w]
        rfl
      refine one_ (i := 7) (N := some 25) #[true, true, true, true, true, true, true, true, false, false] rfl rfl (one_of HT_.out (by kernel_rfl)) (by decide) (fun K hK => ?_)
      refine goes_ Try.func28 (by kernel_rfl) rfl #[.string (s.extract m s.size)] (by rfl) rfl rfl (by (try simp only [List.map_toArray, List.map_cons, List.map_nil]); first | done | rfl) ?_
      refine ((ih _ A2.out).2 _).mono ?_
      rintro e w2 ⟨v2, o2, rfl, a2, t2, k2, g2, b2⟩
      refine ⟨_, rfl, ?_⟩
      refine hK.out _ _ trivial (fun hHeld => ?_)
      clear hK K
      refine norm_ (a' := ?_) ?_ ?_
      rotate_left
      · show Act.put _ (some 25) _ = _
        simp only [Act.put, List.setIfInBounds_toArray, List.set_cons_zero, List.set_cons_succ, i64_w, i32_w]
        rfl
      refine one_ (i := 8) (N := some 26) #[true, true, true, true, true, true, true, true, true, false] rfl rfl (one_of HT_.out (by kernel_rfl)) (by decide) (fun K hK => ?_)
      refine goes_ Try.func35 (by kernel_rfl) rfl #[v1, v2] (by rfl) rfl rfl (by (try simp only [List.map_toArray, List.map_cons, List.map_nil]); first | done | rfl) ?_
      refine ((J v1 v2 w1 w2 o1 o2).out a1 t1 k1 g1 b1 a2 t2 k2 g2 b2).mono ?_
      rintro e w3 ⟨v3, o3, rfl, f3⟩
      refine ⟨_, rfl, ?_⟩
      refine hK.out _ _ trivial (fun hHeld => ?_)
      clear hK K
      refine norm_ (a' := ?_) ?_ ?_
      rotate_left
      · show Act.put _ (some 26) _ = _
        simp only [Act.put, List.setIfInBounds_toArray, List.set_cons_zero, List.set_cons_succ, i64_w, i32_w]
        rfl
      refine pure_ (i := 9) (N := some 2) (v := ?_) (a' := ?_) #[true, true, true, true, true, true, true, true, true, true] rfl rfl (any_of HT_.out (by kernel_rfl)) (fun _ _ _ h => h) (Or.inl ⟨by rfl, ?_⟩) ?_ ?_
      rotate_left
      · intro w'
        go_simp
        with_reducible rfl
      rotate_left
      · simp only [Act.put, List.setIfInBounds_toArray, List.set_cons_zero, List.set_cons_succ, i64_w, i32_w]
        rfl
      refine done_ (done_of HT_.out (by kernel_rfl)) ?_
      try go_wp2
      go_ret
      exact ⟨v3, o3, rfl, f3⟩
theorem build_any (s : ByteArray) (hs : s.size ≤ 100000) (w : World) : Calls Try.prog 28 #[.string s] w fun e w' => Built s w e w' := by
  have H : ∀ (n : Nat) (t : ByteArray), t.size ≤ n → t.size ≤ 100000 → ∀ w : World, Calls Try.prog 28 #[.string t] w fun e w' => Built t w e w' := by
    intro n
    induction n with
    | zero => intro t h1 h2 w; exact build_step t h2 (fun u hu => by omega) w
    | succ n ih => intro t h1 h2 w; exact build_step t h2 (fun u hu => ⟨by omega, fun w => ih u (by omega) (by omega) w⟩) w
  exact H _ s (Nat.le_refl _) hs w
theorem bound_q (n : Nat) (h : n ≤ 100000) (w : World) : Calls Try.prog 36 #[.int .i64 n] w fun e w' => e = .returned (.int .i64 (bnd n)) ∧ ∃ n, w' = w.drewN n :=
  (bound_any n h w).mono fun e w' hp => ⟨hp.1, 0, hp.2⟩
end Go.Proofs.Ytmoceagbmgoijaa.Rop
