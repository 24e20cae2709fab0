/- The iterator of the rope's chunks: what a range over it goes through. -/
import Derived.Test.YtmoceagbmgoijaaLox
import Derived.KernelRfl
import Derived.RangeFuncNested
import Derived.RangeFuncBound
import Derived.RangeFuncCalls
import Derived.RangeFuncLeaves
import Derived.OwnWalkIn
import Derived.TacticsInMore
import Derived.LoopNIn
import Derived.LoopIn
import Derived.WalkKit
import Derived.Outline
import Derived.BigRegionIn
namespace Go.Proofs.Ytmoceagbmgoijaa.Rop
open Go.RowKit Go.Proofs.YtmoceagbmgoijaaW.PrintWords Go.Proofs.YtmoceagbmgoijaaW.PrintLast Go.Proofs.YtmoceagbmgoijaaW.PrintMore Go.Proofs.Ytmoceagbmgoijaa.Tre Go.Proofs.Ytmoceagbmgoijaa.PA
attribute [local go_sem] max2_int min2_int max_two min_two max_three min_three max_four min_four
set_option linter.unusedVariables false
set_option linter.unusedSimpArgs false

theorem yield_any {m m' : Nat} {l : Nat} {args : Array Value} {W : World} {R : Ending → World → Prop} (h : YieldAt Fence.wide m Try.prog l args W R) : YieldAt Fence.wide m' Try.prog l args W R := by
  obtain ⟨fn, tmps, assign, body, hy, h1, h2⟩ := h
  exact ⟨fn, tmps, assign, body, hy, h1, fun c cs _ => h2 c cs (by simp [Fence.room, Fence.wide])⟩
/-- what keeps the nodes -/
def KpN (W W' : World) : Prop := ∀ (k : Nat) (cs : Array Value), W.heap[k]? = some (.cells cs 64 (0, 0)) → W'.heap[k]? = some (.cells cs 64 (0, 0))
theorem KpN.trans {A B C : World} (h : KpN A B) (g : KpN B C) : KpN A C := fun k cs hc => g k cs (h k cs hc)
set_option maxHeartbeats 4000000 in
set_option maxRecDepth 100000 in
/-- walk with a yield: the leaves' texts in order, till the yield says no. -/
theorem walk_in (l : Nat) (J Jx : List ByteArray → World → Prop) (N : Nat)
    (hY : ∀ pre x W, 1 ≤ x.size → x.size ≤ 64 → J pre W → pre.length < N → YieldAt Fence.wide 0 Try.prog l #[.string x] W fun e W' =>
      (e = .returned (.bool true) ∧ J (pre ++ [x]) W' ∧ KpN W W') ∨ (e = .returned (.bool false) ∧ Jx (pre ++ [x]) W')) :
    ∀ (t : T) (k : Nat) (pre : List ByteArray) (W : World), OK t → TrN t k W → J pre W → pre.length + t.leaves.length ≤ N →
      CallsIn Fence.wide 4 Try.prog 33 #[.pointer (some ⟨k, 0, none⟩), .func (.yield l) #[] #[]] W fun e W' =>
        (e = .returned (.bool true) ∧ J (pre ++ t.leaves) W' ∧ KpN W W') ∨ (e = .returned (.bool false) ∧ ∃ q, q <+: t.leaves ∧ Jx (pre ++ q) W')
  | .leaf s, k, pre, W, hok, ht, hJ, hN => by
    obtain ⟨g1, g2⟩ : 1 ≤ s.size ∧ s.size ≤ 64 := by cases hok; exact ⟨by assumption, by assumption⟩
    clear hok
    have c0 : W.cell? ⟨k, 0, none⟩ = some (.string s) := by rw [Lib.cell_of_heap ht]; rfl
    have c1 : W.cell? ⟨k, 1, none⟩ = some (.pointer none) := by rw [Lib.cell_of_heap ht]; rfl
    obtain ⟨fn, tmps, assign, body, hy, hR⟩ := yield_any (m' := 3) (hY pre s W g1 g2 hJ (by rw [T.leaves, List.length_singleton] at hN; omega))
    refine callsIn_of_wp Try.func33 rfl trivial ?_ rfl
    simp only [Try.ntmps33, List.size_toArray, List.length_cons, List.length_nil, Nat.reduceAdd, Nat.reduceSub, Array.replicate_succ, Array.replicate_zero, List.push_toArray, List.append_toArray, List.nil_append, List.cons_append]
    gi_wp2
    refine hR.mono ?_
    rintro e W3 (⟨rfl, hJ3, hk3⟩ | ⟨rfl, hJx3⟩)
    · gi_wp2
      go_ret
      exact .inl ⟨rfl, hJ3, hk3⟩
    · gi_wp2
      go_ret
      exact .inr ⟨rfl, [s], List.prefix_refl _, hJx3⟩
  | .node a b, k, pre, W, hok, ht, hJ, hN => by
    obtain ⟨g1, g2⟩ : OK a ∧ OK b := by cases hok; exact ⟨by assumption, by assumption⟩
    clear hok
    have G2 := Aside0.mk g2
    clear g2
    obtain ⟨bl, br, h0, hl, hr⟩ := ht
    have c1 : W.cell? ⟨k, 1, none⟩ = some (.pointer (some ⟨bl, 0, none⟩)) := by rw [Lib.cell_of_heap h0]; rfl
    rw [T.leaves, List.length_append] at hN
    have IHL := Aside0.mk (callsIn_wide.1 (walk_in l J Jx N hY a bl pre W g1 hl hJ (by omega)))
    have H0 := Aside0.mk h0
    have HR := Aside0.mk hr
    have HN := Aside0.mk hN
    clear h0 hl hr hN hJ g1
    refine callsIn_of_wp Try.func33 rfl trivial ?_ rfl
    simp only [Try.ntmps33, List.size_toArray, List.length_cons, List.length_nil, Nat.reduceAdd, Nat.reduceSub, Array.replicate_succ, Array.replicate_zero, List.push_toArray, List.append_toArray, List.nil_append, List.cons_append]
    gi_wp2_with (refine ⟨trivial, ?_⟩; gi_at_call 33; refine (callsIn_wide.2 IHL.out).mono ?_)
    rintro e W3 (⟨rfl, hJ3, hk3⟩ | ⟨rfl, q, hq, hJx3⟩)
    · have h3 := hk3 _ _ H0.out
      have c2 : W3.cell? ⟨k, 2, none⟩ = some (.pointer (some ⟨br, 0, none⟩)) := by rw [Lib.cell_of_heap h3]; rfl
      have IHR := Aside0.mk (callsIn_wide.1 (walk_in l J Jx N hY b br (pre ++ a.leaves) W3 G2.out (TrN.keep hk3 _ _ HR.out) hJ3 (by have := HN.out; rw [List.length_append]; omega)))
      gi_wp2_with (refine ⟨trivial, ?_⟩; gi_at_call 33; refine (callsIn_wide.2 IHR.out).mono ?_)
      rintro e W4 (⟨rfl, hJ4, hk4⟩ | ⟨rfl, q, hq, hJx4⟩)
      · gi_wp2
        go_ret
        exact .inl ⟨rfl, by rw [T.leaves, ← List.append_assoc]; exact hJ4, hk3.trans hk4⟩
      · gi_wp2
        go_ret
        exact .inr ⟨rfl, a.leaves ++ q, by rw [T.leaves]; exact (List.prefix_append_right_inj _).2 hq, by rw [← List.append_assoc]; exact hJx4⟩
    · gi_wp2
      refine ⟨trivial, ?_⟩
      gi_wp2
      go_ret
      exact .inr ⟨rfl, q, by rw [T.leaves]; exact hq.trans (List.prefix_append _ _), hJx3⟩
set_option maxHeartbeats 4000000 in
set_option maxRecDepth 100000 in
theorem walk_none_in (f : Value) (W : World) : CallsIn Fence.wide 4 Try.prog 33 #[.pointer none, f] W fun e W' => e = .returned (.bool true) ∧ W' = W := callsIn_wide.2 (walk_none f W)
theorem KpN.refl (W : World) : KpN W W := fun _ _ h => h
set_option maxHeartbeats 4000000 in
set_option maxRecDepth 100000 in
/-- Chunks' iterator with a yield. -/
theorem chunks_in0 (l : Nat) (J Jx : List ByteArray → World → Prop) (o : Option T) (p : Option Addr) (bx : Nat)
    (hok : Ok o)
    (hY : ∀ pre x W, 1 ≤ x.size → x.size ≤ 64 → J pre W → pre.length < (lvs o).length → YieldAt Fence.wide 0 Try.prog l #[.string x] W fun e W' =>
      (e = .returned (.bool true) ∧ J (pre ++ [x]) W' ∧ KpN W W') ∨ (e = .returned (.bool false) ∧ Jx (pre ++ [x]) W'))
    (W : World) (hc : W.cell? ⟨bx, 0, none⟩ = some (.pointer p)) (ha : At W (.pointer p) o) (h0 : J [] W) :
    CallsIn Fence.wide 5 Try.prog 32 #[.func (.yield l) #[] #[], .pointer (some ⟨bx, 0, none⟩)] W fun e W' => (∃ v, e = .returned v) ∧
      ((∃ ys, ys = lvs o ∧ J ys W') ∨ (∃ pre, pre <+: lvs o ∧ Jx pre W')) := by
  have H : Calls Try.prog 33 #[.pointer p, .func (.yield l) #[] #[]] W fun e W' =>
      (e = .returned (.bool true) ∧ J (lvs o) W') ∨ (e = .returned (.bool false) ∧ ∃ q, q <+: lvs o ∧ Jx q W') := by
    cases o with
    | none =>
      obtain rfl : p = none := by injection ha
      refine (walk_none _ _).mono ?_
      rintro e W' ⟨rfl, rfl⟩
      exact .inl ⟨rfl, h0⟩
    | some t =>
      obtain ⟨b, hb, ht⟩ := ha
      rw [hb]
      refine (callsIn_wide.1 (walk_in l J Jx _ hY t b [] W hok ht h0 (by show 0 + t.leaves.length ≤ t.leaves.length; omega))).mono ?_
      rintro e W' (⟨rfl, hJ, _⟩ | ⟨rfl, q, hq, hJx⟩)
      · exact .inl ⟨rfl, by rw [List.nil_append] at hJ; exact hJ⟩
      · exact .inr ⟨rfl, q, hq, by rw [List.nil_append] at hJx; exact hJx⟩
  have HH := Aside0.mk H
  clear H hY ha h0 hok
  refine callsIn_of_wp Try.func32 rfl trivial ?_ rfl
  simp only [Try.ntmps32, List.size_toArray, List.length_cons, List.length_nil, Nat.reduceAdd, Nat.reduceSub, Array.replicate_succ, Array.replicate_zero, List.push_toArray, List.append_toArray, List.nil_append, List.cons_append]
  gi_wp2_with (refine ⟨trivial, ?_⟩; gi_at_call 33; refine (callsIn_wide.2 HH.out).mono ?_)
  rintro e W3 (⟨rfl, hJ⟩ | ⟨rfl, q, hq, hJx⟩)
  · gi_wp2
    go_end0
    exact ⟨⟨_, rfl⟩, .inl ⟨_, rfl, hJ⟩⟩
  · gi_wp2
    go_end0
    exact ⟨⟨_, rfl⟩, .inr ⟨_, hq, hJx⟩⟩
/-- the text of a leaf -/
abbrev Lf := {s : ByteArray // 1 ≤ s.size ∧ s.size ≤ 64}
def lf (l : List Lf) : List ByteArray := l.map (·.1)
theorem lf_snoc (l : List Lf) (x : Lf) : lf (l ++ [x]) = lf l ++ [x.1] := by simp [lf]
theorem lf_len (l : List Lf) : (lf l).length = l.length := by simp [lf]
theorem chunks_in (l : Nat) (J Jx : List Lf → World → Prop) (o : Option T) (p : Option Addr) (bx : Nat) (hok : Ok o)
    (hY : ∀ pre (x : Lf) W, J pre W → pre.length < (lvs o).length → YieldAt Fence.wide 0 Try.prog l #[.string x.1] W fun e W' =>
      (e = .returned (.bool true) ∧ J (pre ++ [x]) W' ∧ KpN W W') ∨ (e = .returned (.bool false) ∧ Jx (pre ++ [x]) W'))
    (W : World) (hc : W.cell? ⟨bx, 0, none⟩ = some (.pointer p)) (ha : At W (.pointer p) o) (h0 : J [] W) :
    CallsIn Fence.wide 5 Try.prog 32 #[.func (.yield l) #[] #[], .pointer (some ⟨bx, 0, none⟩)] W fun e W' => (∃ v, e = .returned v) ∧
      ((∃ ys, lf ys = lvs o ∧ J ys W') ∨ (∃ pre, lf pre <+: lvs o ∧ Jx pre W')) := by
  refine callsIn_wide.2 ((callsIn_wide.1 (chunks_in0 l (fun z X => ∃ z' : List Lf, lf z' = z ∧ J z' X) (fun z X => ∃ z' : List Lf, lf z' = z ∧ Jx z' X) o p bx hok ?_ W hc ha ⟨[], rfl, h0⟩)).mono ?_)
  · rintro _ x X g1 g2 ⟨z', rfl, hj⟩ hl
    obtain ⟨fn, tmps, assign, body, hy, q1, q2⟩ := hY z' ⟨x, g1, g2⟩ X hj (by rw [← lf_len]; exact hl)
    refine ⟨fn, tmps, assign, body, hy, q1, fun c cs hcs => ?_⟩
    obtain ⟨e, X2, hX2, hcomes⟩ := q2 c cs hcs
    refine ⟨e, X2, ?_, hcomes⟩
    revert hX2
    clear hcomes
    rintro (⟨rfl, h1, h2⟩ | ⟨rfl, h1⟩)
    · exact .inl ⟨rfl, ⟨_, lf_snoc _ _, h1⟩, h2⟩
    · exact .inr ⟨rfl, ⟨_, lf_snoc _ _, h1⟩⟩
  · rintro e X' ⟨hv, ⟨_, rfl, z', hz, hj⟩ | ⟨_, hp, z', rfl, hj⟩⟩
    · exact ⟨hv, .inl ⟨z', hz, hj⟩⟩
    · exact ⟨hv, .inr ⟨z', hp, hj⟩⟩
theorem chunks_stops (o : Option T) (p : Option Addr) (bx : Nat) (w : World) (hok : Ok o) (hc : w.cell? ⟨bx, 0, none⟩ = some (.pointer p)) (hb : bx < w.heap.size) (ha : At w (.pointer p) o) :
    SeqStopsK Fence.wide 5 Try.prog 32 #[.pointer (some ⟨bx, 0, none⟩)] (fun x : Lf => #[.string x.1]) KpN (fun ys => lf ys = lvs o) (fun pre => lf pre <+: lvs o) (lvs o).length w := fun l J Jx W hW hJ hJx hY h0 =>
  chunks_in l J Jx o p bx hok (fun pre x W1 h1 h2 => yield_any (hY pre x W1 h1 h2)) W ((hW.cell (p := ⟨bx, 0, none⟩) hb).trans hc) (ha.below hW) h0
theorem KpN.put {w : World} (W : World) (l : Nat) (o o' : Obj) (_ : w.heap.size ≤ l) (hl : W.heap[l]? = some o) (hc : o.isCells = false) (_ : o.isWalk = false) : KpN W (W.putObj l o') := fun k cs hk =>
  (World.putObj_heap_other (fun e => by subst e; rw [hl] at hk; injection hk with hk; subst hk; cases hc)).trans hk
theorem cat_lf_size : ∀ l : List Lf, (cat (lf l)).size ≤ 64 * l.length
  | [] => Nat.le_refl _
  | x :: l => by
    have := cat_lf_size l
    have h := x.2.2
    show (x.1 ++ cat (lf l)).size ≤ _
    rw [ByteArray.size_append, List.length_cons]
    omega
theorem cat_snoc (l : List ByteArray) (x : ByteArray) : cat (l ++ [x]) = cat l ++ x := by rw [cat_app]; show cat l ++ (x ++ ⟨#[]⟩) = _; rw [app_nil]
theorem lvs_len {o : Option T} (h : Ok o) : (lvs o).length ≤ siz o := by
  have go : ∀ t : T, OK t → t.leaves.length ≤ t.size := by
    intro t ht
    induction ht with
    | leaf h1 _ => exact h1
    | node _ _ _ _ i1 i2 => rw [T.leaves, List.length_append, T.size]; omega
  cases o with
  | none => exact Nat.le_refl _
  | some t => exact go t h
end Go.Proofs.Ytmoceagbmgoijaa.Rop
