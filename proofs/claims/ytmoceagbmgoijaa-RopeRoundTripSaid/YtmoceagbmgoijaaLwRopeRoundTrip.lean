/- A law of the rope: its call answers true, for all arguments. -/
import Derived.Test.YtmoceagbmgoijaaLow
import Derived.KernelRfl
namespace Go.Proofs.Ytmoceagbmgoijaa.Rop
open Go.RowKit Go.Proofs.YtmoceagbmgoijaaW.PrintWords Go.Proofs.YtmoceagbmgoijaaW.PrintLast Go.Proofs.YtmoceagbmgoijaaW.PrintMore Go.Proofs.Ytmoceagbmgoijaa.Tre Go.Proofs.Ytmoceagbmgoijaa.PA
attribute [local go_sem] max2_int min2_int max_two min_two max_three min_three max_four min_four
set_option linter.unusedVariables false

set_option maxHeartbeats 8000000 in
set_option maxRecDepth 100000 in
theorem roundTrip_any (s : ByteArray) (w : World) : Calls Try.prog 3 #[.string s] w fun e w' => e = .returned (.bool true) ∧ Below w.heap.size w w' := by
  by_cases c : 4000 < s.size
  · have c1 : decide (4000 < (s.size : Int)) = true := decide_eq_true (by omega)
    have c1x : decide (4000 < s.size) = true := decide_eq_true c
    go_enter Try.func3, Try.ntmps3
    go_wp2_with (go_at_call 11; refine (awake_any _).mono ?_; rintro e x1 ⟨rfl, h⟩)
    go_ret
    exact ⟨rfl, h⟩
  · have c1 : decide (4000 < (s.size : Int)) = false := decide_eq_false (by omega)
    have c1x : decide (4000 < s.size) = false := decide_eq_false c
    have HS := Aside0.mk (show s.size ≤ 4000 by omega)
    have S0 := Aside0.mk (Sl.mk (Below.refl w.heap.size w))
    clear c
    go_enter Try.func3, Try.ntmps3
    go_wp2_with (go_at_call 11; refine (awake_any _).mono ?_; rintro e x1 ⟨rfl, h⟩; have S1 := Aside0.mk (S0.out.then_ h); clear h)
    go_wp2_with (go_at_call 13; refine (new_any s (by have := HS.out; omega) x1).mono ?_; rintro e x2 ⟨v2, o2, rfl, a2, t2, k2, h⟩; have A2 := Aside0.mk a2; have S2 := Aside0.mk (S1.out.then_ h); have T2 := Aside0.mk t2; have K2 := Aside0.mk k2; obtain ⟨p2, rfl⟩ := a2.ptr; clear a2 t2 h k2)
    have HH := Aside0.mk (holds_any o2 _ x2 A2.out K2.out (by rw [← txt_size, T2.out]; have := HS.out; omega))
    rw [T2.out] at HH
    go_wp2_with (go_at_call 12; refine HH.out.mono ?_; rintro e x3 ⟨rfl, h⟩; have S3 := Aside0.mk (S2.out.then_ h); clear h)
    go_wp2
    go_ret
    exact ⟨rfl, S3.out.b⟩
end Go.Proofs.Ytmoceagbmgoijaa.Rop
