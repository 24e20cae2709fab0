/- The walks over the package rope: the methods. -/
import Derived.Test.YtmoceagbmgoijaaProg
import Derived.Test.YtmoceagbmgoijaaWMore
import Derived.Test.YtmoceagbmgoijaaWGuard
import Derived.Test.YtmoceagbmgoijaaWLast
import Derived.Test.YtmoceagbmgoijaaWTab
import Derived.Test.YtmoceagbmgoijaaRnd
import Derived.Test.YtmoceagbmgoijaaTre
import Derived.Test.YtmoceagbmgoijaaShf
import Derived.Test.YtmoceagbmgoijaaBld
import Derived.BigCall
import Derived.StillTailTactics
import Derived.WalkKit
import Derived.Outline
import Derived.Deep.LoopGhost
import Derived.Deep.QuietTactic
import Derived.BigQuiet
import Derived.Test.YtmoceagbmgoijaaRor
namespace Go.Proofs.Ytmoceagbmgoijaa.Rop
open Go.RowKit Go.Proofs.YtmoceagbmgoijaaW.PrintWords Go.Proofs.YtmoceagbmgoijaaW.PrintLast Go.Proofs.YtmoceagbmgoijaaW.PrintMore Go.Proofs.Ytmoceagbmgoijaa.Tre
attribute [local go_sem] max2_int min2_int max_two min_two max_three min_three max_four min_four
set_option linter.unusedVariables false
set_option linter.unusedSimpArgs false

theorem bt_app_l (x y : ByteArray) {i : Nat} (h : i < x.size) : bt (x ++ y) (i : Int) = bt x (i : Int) := by
  unfold bt
  have h2 : (i : Int).toNat < (x ++ y).size := by rw [ByteArray.size_append]; omega
  rw [dif_pos h2, dif_pos (show (i : Int).toNat < x.size from h)]
  congr 2
  have e : (x ++ y).data.toList[i]'(by show i < (x ++ y).size; exact h2) = (x.data.toList ++ y.data.toList)[i]'(by rw [List.length_append]; exact Nat.lt_of_lt_of_le h (Nat.le_add_right _ _)) := by simp only [ByteArray.data_append, Array.toList_append]
  refine e.trans ?_
  rw [List.getElem_append_left (show i < x.data.toList.length from h)]
  rfl
theorem bt_app_r (x y : ByteArray) {i : Nat} (h : x.size ≤ i) (h3 : i < x.size + y.size) : bt (x ++ y) (i : Int) = bt y ((i - x.size : Nat) : Int) := by
  unfold bt
  have h2 : (i : Int).toNat < (x ++ y).size := by rw [ByteArray.size_append]; omega
  rw [dif_pos h2, dif_pos (show ((i - x.size : Nat) : Int).toNat < y.size by rw [Int.toNat_natCast]; omega)]
  congr 2
  have e : (x ++ y).data.toList[i]'(by show i < (x ++ y).size; exact h2) = (x.data.toList ++ y.data.toList)[i]'(by rw [List.length_append]; exact h3) := by simp only [ByteArray.data_append, Array.toList_append]
  refine e.trans ?_
  rw [List.getElem_append_right (show x.data.toList.length ≤ i from h)]
  rfl
set_option maxHeartbeats 8000000 in
set_option maxRecDepth 100000 in
theorem byte_good (o : Option T) (v : Value) (w : World) (a : At w v o) (k : Ok o) (hs : siz o ≤ 100000) (n : Nat) (h1 : n < siz o) :
    Calls Try.prog 19 #[.agg #[v], .int .i64 n] w fun e w' => e = .returned (.tuple #[.int .u8 (bt (txt o) n), .int .i64 0]) ∧ Below w.heap.size w w' := by
  cases o with
  | none => change n < 0 at h1; omega
  | some t0 =>
  have L := Aside0.mk (len_any (some t0) _ _ (a.alloc (.cells #[v] 26)))
  obtain ⟨b0, rfl, ht0⟩ := a
  have hg := World.alloc_heap_new w (.cells #[.pointer (some ⟨b0, 0, none⟩)] 26)
  have hb := bal w (.cells #[.pointer (some ⟨b0, 0, none⟩)] 26)
  have hz := hsz w (.cells #[.pointer (some ⟨b0, 0, none⟩)] 26)
  obtain ⟨W, hW⟩ : ∃ W, w.alloc (.cells #[.pointer (some ⟨b0, 0, none⟩)] 26) = W := ⟨_, rfl⟩
  rw [hW] at hg hb L hz
  have dd : W.cell? ⟨w.heap.size, 0, none⟩ = some (.pointer (some ⟨b0, 0, none⟩)) := (blk_cell hg 0).trans rfl
  have G := Aside0.mk hg
  have HB := Aside0.mk hb
  have HZ := Aside0.mk hz
  have c1 : decide ((n : Int) < 0) = false := decide_eq_false (by omega)
  have c1x : ((n : Int) < 0) = False := eq_false (by omega)
  have c2 : decide ((siz (some t0) : Int) ≤ (n : Int)) = false := decide_eq_false (by omega)
  have c2x : ((siz (some t0) : Int) ≤ (n : Int)) = False := eq_false (by omega)
  have c2y : (siz (some t0) ≤ n) = False := eq_false (by omega)
  have HT0 := Aside0.mk ht0
  have OK0 := Aside0.mk (show OK t0 from k)
  have HN := Aside0.mk (show n < t0.size from h1)
  have HS := Aside0.mk (show t0.size ≤ 100000 from hs)
  clear hg hb hz h1 hs k ht0
  go_enter Try.func19, Try.ntmps19
  go_wp2_with (go_at_call 23; refine L.out.mono ?_; rintro e w1 ⟨rfl, h1⟩; have g1 := (h1.block w.heap.size (lt_of_some G.out)).trans G.out; have d1 := (blk_cell g1 0).trans rfl; clear g1; have HB1 : Aside0 (Below w.heap.size w w1) := Aside0.mk (HB.out.trans (h1.mono (by rw [HZ.out]; omega))); clear h1)
  go_loopg [1, 6] t0.size (fun kq v1 v6 X => ∃ (t : T) (b i : Nat), v1 = .int .i64 i ∧ v6 = .pointer (some ⟨b, 0, none⟩) ∧ Aside0 (t.size ≤ kq ∧ i < t.size ∧ t.size ≤ 100000 ∧ OK t) ∧ Aside0 (bt t.text (i : Int) = bt (txt (some t0)) (n : Int)) ∧ Aside0 (TrN t b X ∧ Below w.heap.size w X))
  case atStart => exact ⟨t0, b0, n, rfl, rfl, ⟨Nat.le_refl _, HN.out, HS.out, OK0.out⟩, ⟨rfl⟩, ⟨keepN HT0.out HB1.out, HB1.out⟩⟩
  case round =>
    obtain ⟨t, b, i, rfl, rfl, ⟨q1, q2, q3, q4⟩, HV, ⟨ht, hx⟩⟩ := hrel
    cases t with
    | leaf s =>
      have d0 : wr.cell? ⟨b, 0, none⟩ = some (.string s) := by rw [Lib.cell_of_heap ht]; rfl
      have d1 : wr.cell? ⟨b, 1, none⟩ = some (.pointer none) := by rw [Lib.cell_of_heap ht]; rfl
      have q2 : i < s.size := q2
      have e1 : (0 ≤ (i : Int)) = True := eq_true (by omega)
      have e2 : ((i : Int) < (s.size : Int)) = True := eq_true (by omega)
      have e3 : (i < s.size) = True := eq_true q2
      have hx0 := bt_at s i
      clear q1 q3 q4 ht
      have HX := Aside0.mk hx
      clear hx
      go_wp2
      go_ret2
      refine ⟨?_, HX.out⟩
      rw [← HV.out]
      show Ending.returned (.tuple #[.int .u8 _, .int .i64 0]) = .returned (.tuple #[.int .u8 (bt s (i : Int)), .int .i64 0])
      rw [← hx0 q2]
      rfl
    | node l r =>
      obtain ⟨bl, br, h0, hl, hr⟩ := ht
      obtain ⟨ol, or_⟩ : OK l ∧ OK r := by cases q4 with | node x y _ _ => exact ⟨x, y⟩
      have pl := ol.pos
      have pr := or_.pos
      obtain ⟨vl, vr, hkl⟩ := hl.blk
      have q2 : i < l.size + r.size := q2
      have q3 : l.size + r.size ≤ 100000 := q3
      have q1 : l.size + r.size ≤ gk := q1
      have c4 : wr.cell? ⟨b, 1, none⟩ = some (.pointer (some ⟨bl, 0, none⟩)) := by rw [Lib.cell_of_heap h0]; rfl
      have c5 : wr.cell? ⟨b, 2, none⟩ = some (.pointer (some ⟨br, 0, none⟩)) := by rw [Lib.cell_of_heap h0]; rfl
      have c6 : wr.cell? ⟨bl, 3, none⟩ = some (.int .i64 l.size) := by rw [Lib.cell_of_heap hkl]; rfl
      have HL := Aside0.mk hl
      have HR := Aside0.mk hr
      have HX := Aside0.mk hx
      clear h0 hkl hl hr hx q4
      by_cases hlt : i < l.size
      · have e1 : decide ((i : Int) < (l.size : Int)) = true := decide_eq_true (by omega)
        have e1x : ((i : Int) < (l.size : Int)) = True := eq_true (by omega)
        have e1y : (i < l.size) = True := eq_true hlt
        have V : Aside0 (bt l.text (i : Int) = bt (txt (some t0)) (n : Int)) := Aside0.mk (by rw [← HV.out, T.text, bt_app_l _ _ (by rw [T.text_size]; exact hlt)])
        have Q : Aside0 (l.size < gk ∧ i < l.size ∧ l.size ≤ 100000) := Aside0.mk ⟨by omega, hlt, by omega⟩
        clear q1 q2 q3 pl pr hlt
        go_wp2
        go_roundg l.size
        case measure => exact Q.out.1
        case rel => exact ⟨l, bl, i, rfl, rfl, ⟨Nat.le_refl _, Q.out.2.1, Q.out.2.2, ol⟩, V, ⟨HL.out, HX.out⟩⟩
      · have e1 : decide ((i : Int) < (l.size : Int)) = false := decide_eq_false (by omega)
        have e1x : ((i : Int) < (l.size : Int)) = False := eq_false (by omega)
        have e1y : (i < l.size) = False := eq_false hlt
        obtain ⟨q, hq⟩ : ∃ q : Nat, q = i - l.size := ⟨_, rfl⟩
        have hqi : (i : Int) - (l.size : Int) = (q : Int) := by omega
        have V : Aside0 (bt r.text (q : Int) = bt (txt (some t0)) (n : Int)) := Aside0.mk (by rw [← HV.out, T.text, bt_app_r _ _ (by rw [T.text_size]; omega) (by rw [T.text_size, T.text_size]; omega), T.text_size, hq])
        have Q : Aside0 (r.size < gk ∧ q < r.size ∧ r.size ≤ 100000) := Aside0.mk ⟨by omega, by omega, by omega⟩
        have wq := wrapN q (by omega)
        have wm := wrapM q (by omega)
        clear q1 q2 q3 pl pr hlt hq
        go_wp2_with (fail)
        go_quiet (fail)
        go_wp2
        go_roundg r.size
        case measure => exact Q.out.1
        case rel => exact ⟨r, br, q, rfl, rfl, ⟨Nat.le_refl _, Q.out.2.1, Q.out.2.2, or_⟩, V, ⟨keepN HR.out (pw_below_drewN (Below.refl _ _) nq), pw_below_drewN HX.out nq⟩⟩
set_option maxHeartbeats 4000000 in
set_option maxRecDepth 100000 in
theorem byte_bad (o : Option T) (v : Value) (w : World) (a : At w v o) (n : Int) (h : ¬ (0 ≤ n ∧ n < siz o)) :
    Calls Try.prog 19 #[.agg #[v], .int .i64 n] w fun e w' => e = .returned (.tuple #[.int .u8 0, .int .i64 2]) ∧ Below w.heap.size w w' := by
  obtain ⟨p, rfl⟩ := a.ptr
  have L := Aside0.mk (len_any o _ _ (a.alloc (.cells #[.pointer p] 26)))
  rcases (by omega : n < 0 ∨ (¬ n < 0 ∧ (siz o : Int) ≤ n)) with c | ⟨c, d⟩
  · have c1 : decide (n < 0) = true := decide_eq_true c
    clear h
    go_enter Try.func19, Try.ntmps19
    go_wp2
    go_ret2
    exact ⟨rfl, bal _ _⟩
  · have c1 : decide (n < 0) = false := decide_eq_false c
    have c3 : decide ((siz o : Int) ≤ n) = true := decide_eq_true d
    clear h
    go_enter Try.func19, Try.ntmps19
    go_wp2_with (go_at_call 23; refine L.out.mono ?_; rintro e w1 ⟨rfl, h1⟩)
    go_wp2
    go_ret2
    exact ⟨rfl, (bal _ _).trans (h1.mono (by rw [hsz]; omega))⟩
end Go.Proofs.Ytmoceagbmgoijaa.Rop
