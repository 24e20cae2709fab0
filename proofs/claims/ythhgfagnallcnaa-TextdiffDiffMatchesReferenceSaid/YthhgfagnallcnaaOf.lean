/- The table of textdiff: a read of it, the iterator over the pairs of offsets, and the loop that fills it: what each leaves. -/
import Derived.Test.YthhgfagnallcnaaRnd
import Derived.Test.YthhgfagnallcnaaWMore
import Derived.RangeFuncNested
import Derived.RangeFuncBound
import Derived.RangeFuncCalls
import Derived.RangeFuncLeaves
import Derived.Shelf.Abstract
import Derived.Shelf.RegionOpen
import Derived.WalkKit
import Derived.OwnWalkIn
import Derived.TacticsInMore
import Derived.LoopNIn
import Derived.LoopIn
import Derived.Outline
import Derived.Test.YthhgfagnallcnaaProg
set_option linter.unusedVariables false
set_option linter.unusedSimpArgs false
namespace Go.Proofs.Ythhgfagnallcnaa.Of
open Go.RowKit Go.Shelf Go.Proofs.YthhgfagnallcnaaW.PrintWords Go.Proofs.YthhgfagnallcnaaW.PrintLast

set_option maxHeartbeats 2000000 in
set_option maxRecDepth 100000 in
/-- t.at(i, j): the cell of the table; the world is as it was, but for draws. -/
theorem at_any (p : Nat) (A : Option Addr) (c : Nat) (a b : ByteArray) (cost : List Int) (i j q : Int) (w : World)
    (h0 : w.cell? ⟨p, 0, none⟩ = some (.string a)) (h1 : w.cell? ⟨p, 1, none⟩ = some (.string b)) (h2 : w.cell? ⟨p, 2, none⟩ = some (.slice A cost.length c)) (hC : Kd.C (Kd.int .i64) w A cost.length cost)
    (hq : wrap64 (wrap64 (i * wrap64 ((b.size : Int) + 1)) + j) = q) (q0 : 0 ≤ q) (q1 : q < cost.length) :
    Calls Try.prog 22 #[.pointer (some ⟨p, 0, none⟩), .int .i64 i, .int .i64 j] w fun e w' => e = .returned (.int .i64 (rd cost q)) ∧ Drawn0 w w' := by
  have hqw : (IntKind.i64.wrap (wrap64 (i * wrap64 ((b.size : Int) + 1)) + j)) = q := (i64_w _).trans hq
  obtain ⟨ad, e, hx⟩ := Kd.at_int hC q q0 q1
  cases e
  have c5 : decide (0 ≤ q) = true := decide_eq_true q0
  have c6 : decide (q < (cost.length : Int)) = true := decide_eq_true q1
  replace q0 := eq_true q0
  replace q1 := eq_true q1
  clear hC
  go_enter Try.func22, Try.ntmps22
  go_wp2
  repeat (go_quiet (fail); try go_wp2)
  go_ret
  exact ⟨by first | rfl | (simp only [← hq]; rfl), by repeat (first | exact Drawn0.refl _ | apply Drawn0.step)⟩

set_option maxHeartbeats 2000000 in
/-- pairs(n, m): the closure over two new variables. -/
theorem pairs_any (n m : Int) (w : World) :
    Calls Try.prog 25 #[.int .i64 n, .int .i64 m] w fun e w' => e = .returned (.func (.func 26) #[] #[.pointer (some ⟨w.heap.size, 0, none⟩), .pointer (some ⟨w.heap.size + 1, 0, none⟩)]) ∧
      w' = (w.alloc (.cells #[.int .i64 n] 3)).alloc (.cells #[.int .i64 m] 3) := by
  go_enter Try.func25, Try.ntmps25
  go_wp2
  go_ret
  exact ⟨rfl, rfl⟩

/-- a pair of offsets -/
abbrev Pr (n m : Nat) := { x : Nat × Nat // x.1 ≤ n ∧ x.2 ≤ m }
abbrev encP {n m : Nat} (x : Pr n m) : Array Value := #[.int .i64 (x.1.1 : Int), .int .i64 (x.1.2 : Int)]
/-- the k-th pair, from the ends on -/
def nth (n m k : Nat) : Pr n m := ⟨(n - k / (m + 1), m - k % (m + 1)), Nat.sub_le _ _, Nat.sub_le _ _⟩
def upto (n m k : Nat) : List (Pr n m) := (List.range k).map (nth n m)
theorem upto_succ (n m k : Nat) : upto n m (k + 1) = upto n m k ++ [nth n m k] := by simp [upto, List.range_succ]
theorem upto_length (n m k : Nat) : (upto n m k).length = k := by simp [upto]
theorem nth_at (n m p q : Nat) (hp : p ≤ n) (hq : q ≤ m) : (nth n m (p * (m + 1) + q)).1 = (n - p, m - q) := by
  have h1 : (p * (m + 1) + q) / (m + 1) = p := by
    rw [Nat.mul_comm, Nat.mul_add_div (by omega), Nat.div_eq_of_lt (by omega)]; rfl
  have h2 : (p * (m + 1) + q) % (m + 1) = q := by
    rw [Nat.mul_comm, Nat.mul_add_mod, Nat.mod_eq_of_lt (by omega)]
  show (n - (p * (m + 1) + q) / (m + 1), m - (p * (m + 1) + q) % (m + 1)) = _
  rw [h1, h2]

/-- what a round keeps for the iterator: its two variables -/
def Kp2 (x y : Nat) (A B : World) : Prop := B.heap[x]? = A.heap[x]? ∧ B.heap[y]? = A.heap[y]?
theorem Kp2.trans {x y : Nat} {A B C : World} (h : Kp2 x y A B) (k : Kp2 x y B C) : Kp2 x y A C := ⟨k.1.trans h.1, k.2.trans h.2⟩
theorem Kp2.cell2 {x y : Nat} {A B : World} (h : Kp2 x y A B) {o : Nat} : B.cell? ⟨y, o, none⟩ = A.cell? ⟨y, o, none⟩ := World.cell?_of_block h.2
theorem Kp2.put {x y : Nat} {w : World} (hx : x < w.heap.size) (hy : y < w.heap.size) (W : World) (l : Nat) (o o' : Obj) (hl : w.heap.size ≤ l) (_ : W.heap[l]? = some o) (_ : o.isCells = false) (_ : o.isWalk = false) : Kp2 x y W (W.putObj l o') :=
  ⟨World.putObj_heap_other (by omega), World.putObj_heap_other (by omega)⟩

set_option maxRecDepth 100000 in
set_option maxHeartbeats 2000000 in
theorem iter_in (F : Fence) (nn : Nat) (h26 : F.fn 26) (hro : F.round = none) (hn : 1 ≤ nn) (l Bn Bm n m : Nat) (hN : n ≤ 100000) (hM : m ≤ 100000) (J Jx : List (Pr n m) → World → Prop)
    (hY : ∀ pre x W, J pre W → pre.length < (n + 1) * (m + 1) → YieldAt F (nn - 1) Try.prog l (encP x) W fun e W' =>
      (e = .returned (.bool true) ∧ J (pre ++ [x]) W' ∧ Kp2 Bn Bm W W') ∨ (e = .returned (.bool false) ∧ Jx (pre ++ [x]) W'))
    (W : World) (hcn : W.cell? ⟨Bn, 0, none⟩ = some (.int .i64 (n : Int))) (hcm : W.cell? ⟨Bm, 0, none⟩ = some (.int .i64 (m : Int))) (h0 : J [] W) :
    CallsIn F nn Try.prog 26 #[.func (.yield l) #[] #[], .pointer (some ⟨Bn, 0, none⟩), .pointer (some ⟨Bm, 0, none⟩)] W fun e W' => (∃ v, e = .returned v) ∧
      ((∃ ys, ys = upto n m ((n + 1) * (m + 1)) ∧ J ys W') ∨ (∃ pre : List (Pr n m), True ∧ Jx pre W')) := by
  refine callsIn_of_wp Try.func26 rfl h26 ?_ hro
  simp only [Try.ntmps26, List.size_toArray, List.length_cons, List.length_nil, Nat.reduceAdd, Nat.reduceSub, Array.replicate_succ, Array.replicate_zero, List.push_toArray, List.append_toArray, List.nil_append, List.cons_append]
  gi_wp2
  gi_loopw [4] (fun i wr => ∃ p : Nat, p ≤ n + 1 ∧ i = .int .i64 ((n : Int) - p) ∧ J (upto n m (p * (m + 1))) wr ∧ Kp2 Bn Bm W wr) (fun i _ => (intOf i + 1).toNat)
  case atStart => exact ⟨0, Nat.zero_le _, by simp, by simpa [upto] using h0, ⟨rfl, rfl⟩⟩
  case round =>
    obtain ⟨p, hp, rfl, hJs, hB⟩ := hrel
    obtain ⟨wo, rfl⟩ : ∃ wo : World, wo = wr := ⟨_, rfl⟩
    by_cases hlt : p ≤ n
    · have hcm1 := hB.cell2.trans hcm
      have hge : 0 ≤ (n : Int) - p := by omega
      gi_wp2
      gi_loopw [5] (fun j wr => ∃ q : Nat, q ≤ m + 1 ∧ j = .int .i64 ((m : Int) - q) ∧ J (upto n m (p * (m + 1) + q)) wr ∧ Kp2 Bn Bm W wr) (fun j _ => (intOf j + 1).toNat)
      case atStart => exact ⟨0, Nat.zero_le _, by simp, hJs, hB⟩
      case round =>
        obtain ⟨q, hq, rfl, hJq, hBq⟩ := hrel
        by_cases hlq : q ≤ m
        · have hgq : 0 ≤ (m : Int) - q := by omega
          have hk : p * (m + 1) + q < (n + 1) * (m + 1) := by
            have : p * (m + 1) ≤ n * (m + 1) := Nat.mul_le_mul_right _ hlt
            rw [Nat.add_mul n 1]; omega
          obtain ⟨fn, tmps, assign, body, hy, hR⟩ := hY _ (nth n m (p * (m + 1) + q)) wr hJq (by rw [upto_length]; exact hk)
          dsimp only [encP] at hy
          rw [nth_at n m p q hlt hlq] at hy
          dsimp only at hy
          rw [show ((n - p : Nat) : Int) = (n : Int) - p by omega, show ((m - q : Nat) : Int) = (m : Int) - q by omega] at hy
          gi_wp2
          refine hR.mono ?_
          rintro e W3 (⟨rfl, hJ3, hk3⟩ | ⟨rfl, hJx3⟩)
          · gi_wp2
            go_roundw
            case rel => exact ⟨q + 1, by omega, by go_num, by rw [← Nat.add_assoc, upto_succ]; exact hJ3, hBq.trans hk3⟩
            case measure => simp [intOf]; omega
          · gi_wp2
            refine bodyPost_ret (results_none rfl _ _ _) rfl ?_
            exact ⟨⟨_, rfl⟩, .inr ⟨_, trivial, hJx3⟩⟩
        · obtain rfl : q = m + 1 := by omega
          gi_wp2
          go_roundw
          case rel => exact ⟨p + 1, by omega, by go_num, by rw [Nat.add_mul p 1, Nat.one_mul]; exact hJq, hBq⟩
          case measure => simp [intOf]; omega
    · obtain rfl : p = n + 1 := by omega
      gi_wp2
      go_end0
      exact ⟨⟨_, rfl⟩, .inl ⟨_, rfl, hJs⟩⟩
theorem iter_stops (F : Fence) (nn : Nat) (h26 : F.fn 26) (hro : F.round = none) (hn : 1 ≤ nn) (Bn Bm n m : Nat) (hN : n ≤ 100000) (hM : m ≤ 100000) (w : World) (hbn : Bn < w.heap.size) (hbm : Bm < w.heap.size)
    (hcn : w.cell? ⟨Bn, 0, none⟩ = some (.int .i64 (n : Int))) (hcm : w.cell? ⟨Bm, 0, none⟩ = some (.int .i64 (m : Int))) :
    SeqStopsK F nn Try.prog 26 #[.pointer (some ⟨Bn, 0, none⟩), .pointer (some ⟨Bm, 0, none⟩)] (encP (n := n) (m := m)) (Kp2 Bn Bm) (fun ys => ys = upto n m ((n + 1) * (m + 1))) (fun _ => True) ((n + 1) * (m + 1)) w := fun l J Jx W hW hJ hJx hY h0 =>
  iter_in F nn h26 hro hn l Bn Bm n m hN hM J Jx hY W ((hW.cell (p := ⟨Bn, 0, none⟩) hbn).trans hcn) ((hW.cell (p := ⟨Bm, 0, none⟩) hbm).trans hcm) h0
end Go.Proofs.Ythhgfagnallcnaa.Of
