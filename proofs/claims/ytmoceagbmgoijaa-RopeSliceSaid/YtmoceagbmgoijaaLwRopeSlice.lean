/- A law of the rope: its call answers true, for all arguments. -/
import Derived.Test.YtmoceagbmgoijaaLow
import Derived.KernelRfl
namespace Go.Proofs.Ytmoceagbmgoijaa.Rop
open Go.RowKit Go.Proofs.YtmoceagbmgoijaaW.PrintWords Go.Proofs.YtmoceagbmgoijaaW.PrintLast Go.Proofs.YtmoceagbmgoijaaW.PrintMore Go.Proofs.Ytmoceagbmgoijaa.Tre Go.Proofs.Ytmoceagbmgoijaa.PA
attribute [local go_sem] max2_int min2_int max_two min_two max_three min_three max_four min_four
set_option linter.unusedVariables false
set_option linter.unusedSimpArgs false

def slP (s : ByteArray) (f z : Int) : ByteArray := if 0 ≤ f ∧ f ≤ z ∧ z ≤ s.size then s.extract f.toNat z.toNat else ⟨#[]⟩
def slC (s : ByteArray) (f z : Int) : Int := if 0 ≤ f ∧ f ≤ z ∧ z ≤ s.size then 0 else 2
def byP (s : ByteArray) (n : Int) : Int := if 0 ≤ n ∧ n < s.size then bt s n else 0
def byC (s : ByteArray) (n : Int) : Int := if 0 ≤ n ∧ n < s.size then 0 else 2
theorem slicem_all (o : Option T) (v : Value) (w : World) (a : At w v o) (k : Ok o) (hs : siz o ≤ 100000) (f z : Int) :
    Calls Try.prog 17 #[.agg #[v], .int .i64 f, .int .i64 z] w fun e w' => e = .returned (.tuple #[.string (slP (txt o) f z), .int .i64 (slC (txt o) f z)]) ∧ Below w.heap.size w w' := by
  unfold slP slC
  rw [txt_size]
  by_cases h : 0 ≤ f ∧ f ≤ z ∧ z ≤ siz o
  · rw [if_pos h, if_pos h]
    obtain ⟨f, rfl⟩ : ∃ q : Nat, f = q := ⟨f.toNat, by omega⟩
    obtain ⟨z, rfl⟩ : ∃ q : Nat, z = q := ⟨z.toNat, by omega⟩
    exact slicem_good o v w a k hs f z (by omega) (by omega)
  · rw [if_neg h, if_neg h]
    exact slicem_bad o v w a f z h
theorem refSlice_all (s : ByteArray) (f z : Int) (w : World) :
    Calls Try.prog 18 #[.string s, .int .i64 f, .int .i64 z] w fun e w' => e = .returned (.tuple #[.string (slP s f z), .int .i64 (slC s f z)]) ∧ Below w.heap.size w w' := by
  unfold slP slC
  by_cases h : 0 ≤ f ∧ f ≤ z ∧ z ≤ s.size
  · rw [if_pos h, if_pos h]
    obtain ⟨f, rfl⟩ : ∃ q : Nat, f = q := ⟨f.toNat, by omega⟩
    obtain ⟨z, rfl⟩ : ∃ q : Nat, z = q := ⟨z.toNat, by omega⟩
    exact refSlice_good s f z (by omega) (by omega) w
  · rw [if_neg h, if_neg h]
    exact refSlice_bad s f z h w
theorem byte_all (o : Option T) (v : Value) (w : World) (a : At w v o) (k : Ok o) (hs : siz o ≤ 100000) (n : Int) :
    Calls Try.prog 19 #[.agg #[v], .int .i64 n] w fun e w' => e = .returned (.tuple #[.int .u8 (byP (txt o) n), .int .i64 (byC (txt o) n)]) ∧ Below w.heap.size w w' := by
  unfold byP byC
  rw [txt_size]
  by_cases h : 0 ≤ n ∧ n < siz o
  · rw [if_pos h, if_pos h]
    obtain ⟨n, rfl⟩ : ∃ q : Nat, n = q := ⟨n.toNat, by omega⟩
    exact byte_good o v w a k hs n (by omega)
  · rw [if_neg h, if_neg h]
    exact byte_bad o v w a n h
theorem refByte_all (s : ByteArray) (n : Int) (w : World) :
    Calls Try.prog 20 #[.string s, .int .i64 n] w fun e w' => e = .returned (.tuple #[.int .u8 (byP s n), .int .i64 (byC s n)]) ∧ Below w.heap.size w w' := by
  unfold byP byC
  by_cases h : 0 ≤ n ∧ n < s.size
  · rw [if_pos h, if_pos h]
    obtain ⟨n, rfl⟩ : ∃ q : Nat, n = q := ⟨n.toNat, by omega⟩
    exact refByte_good s n (by omega) w
  · rw [if_neg h, if_neg h]
    exact refByte_bad s n h w
set_option maxHeartbeats 8000000 in
set_option maxRecDepth 100000 in
theorem slice_law (s : ByteArray) (f z : Int) (w : World) : Calls Try.prog 6 #[.string s, .int .i64 f, .int .i64 z] w fun e w' => e = .returned (.bool true) ∧ Below w.heap.size w w' := by
  by_cases c : 1000 < s.size
  · have c1 : decide (1000 < (s.size : Int)) = true := decide_eq_true (by omega)
    have c1x : decide (1000 < s.size) = true := decide_eq_true c
    go_enter Try.func6, Try.ntmps6
    go_wp2_with (go_at_call 11; refine (awake_any _).mono ?_; rintro e x1 ⟨rfl, h⟩)
    go_ret
    exact ⟨rfl, h⟩
  · have c1 : decide (1000 < (s.size : Int)) = false := decide_eq_false (by omega)
    have c1x : decide (1000 < s.size) = false := decide_eq_false c
    have HS := Aside0.mk (show s.size ≤ 1000 by omega)
    have S0 := Aside0.mk (Sl.mk (Below.refl w.heap.size w))
    clear c
    go_enter Try.func6, Try.ntmps6
    go_wp2_with (go_at_call 13; refine (new_any s (by have := HS.out; omega) _).mono ?_; rintro e x2 ⟨v2, o2, rfl, a2, t2, k2, b2⟩; obtain ⟨p2, rfl⟩ := a2.ptr; have C2 := Aside0.mk (Cel.fresh a2); have S2 := Aside0.mk ((S0.out.then_ b2).fresh p2); obtain ⟨X, hX⟩ : ∃ X, (x2.alloc (.cells #[.pointer none] 26)).setCell ⟨x2.heap.size, 0, none⟩ (.pointer p2) = X := ⟨_, rfl⟩; rw [hX] at C2 S2; have c2 := C2.out.cell; have T2 := Aside0.mk t2; have K2 := Aside0.mk k2; clear a2 t2 b2 k2)
    have Z2 : Aside0 (siz o2 ≤ 100000) := Aside0.mk (by rw [← txt_size, T2.out]; have := HS.out; omega)
    go_wp2_with (go_at_call 17; refine (slicem_all o2 _ X C2.out.at_ K2.out Z2.out f z).mono ?_; rw [T2.out]; rintro e x3 ⟨rfl, h⟩; have C3 := Aside0.mk (C2.out.below h); have S3 := Aside0.mk (S2.out.then_ h); have c3 := C3.out.cell; clear h)
    go_wp2_with (go_at_call 18; refine (refSlice_all s f z _).mono ?_; rintro e x4 ⟨rfl, h⟩; have C4 := Aside0.mk (C3.out.below h); have S4 := Aside0.mk (S3.out.then_ h); have c4 := C4.out.cell; clear h)
    go_wp2_with (go_at_call 19; refine (byte_all o2 _ _ C4.out.at_ K2.out Z2.out f).mono ?_; rw [T2.out]; rintro e x5 ⟨rfl, h⟩; have S5 := Aside0.mk (S4.out.then_ h); clear h)
    go_wp2_with (go_at_call 20; refine (refByte_all s f _).mono ?_; rintro e x6 ⟨rfl, h⟩; have S6 := Aside0.mk (S5.out.then_ h); clear h)
    go_wp2_with (go_at_call 11; refine (awake_any _).mono ?_; rintro e x7 ⟨rfl, h⟩; have S7 := Aside0.mk (S6.out.then_ h); clear h)
    go_wp2
    go_ret
    exact ⟨rfl, S7.out.b⟩
end Go.Proofs.Ytmoceagbmgoijaa.Rop
