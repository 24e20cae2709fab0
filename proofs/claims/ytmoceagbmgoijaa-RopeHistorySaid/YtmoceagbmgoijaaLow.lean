/- The reference functions of the rope's laws, what holds and awake answer. -/
import Derived.Test.YtmoceagbmgoijaaRos
import Derived.Test.YtmoceagbmgoijaaPAx22
import Derived.Test.YtmoceagbmgoijaaPAx27
import Derived.Test.YtmoceagbmgoijaaPAx29
import Derived.Test.YtmoceagbmgoijaaPAx30
import Derived.KernelRfl
namespace Go.Proofs.Ytmoceagbmgoijaa.Rop
open Go.RowKit Go.Proofs.YtmoceagbmgoijaaW.PrintWords Go.Proofs.YtmoceagbmgoijaaW.PrintLast Go.Proofs.YtmoceagbmgoijaaW.PrintMore Go.Proofs.Ytmoceagbmgoijaa.Tre Go.Proofs.Ytmoceagbmgoijaa.PA
attribute [local go_sem] max2_int min2_int max_two min_two max_three min_three max_four min_four
set_option linter.unusedVariables false
set_option linter.unusedSimpArgs false

theorem drawnB {w w' : World} (h : Drawn0 w w') : Below w.heap.size w w' := by
  obtain ⟨n, rfl⟩ := h
  exact pw_below_drewN (Below.refl _ _) n
theorem bound_tab : ∀ b : Fin 110, emendateref01_Bound.l0 70 (b.val : Int) 0 = some ((2 * bl (b.val - 1) + 2 : Nat) : Int) := by decide +kernel
theorem bound_ref (n : Nat) (h : n ≤ 6900) : emendateref01_Bound.f 70 (n : Int) = some ((bnd n : Nat) : Int) := by
  unfold emendateref01_Bound.f bnd
  by_cases c : n ≤ 64
  · rw [if_pos (by omega), if_pos c]; rfl
  · rw [if_neg (by omega), if_neg c]
    have e : wrap64 (Int.tdiv (wrap64 ((n : Int) + 63)) 64) = (((n + 63) / 64 : Nat) : Int) := by
      have e1 : wrap64 ((n : Int) + 63) = ((n + 63 : Nat) : Int) := by unfold wrap64; omega
      rw [e1]
      have e2 : Int.tdiv ((n + 63 : Nat) : Int) 64 = (((n + 63) / 64 : Nat) : Int) := rfl
      rw [e2]; unfold wrap64; omega
    rw [e]
    exact bound_tab ⟨(n + 63) / 64, by omega⟩
theorem refBound_any (n : Nat) (h : n ≤ 6900) (w : World) : Calls Try.prog 25 #[.int .i64 n] w fun e w' => e = .returned (.int .i64 (bnd n)) ∧ Below w.heap.size w w' :=
  (emendateref01_Bound.calls 70 n (bnd n) w (bound_ref n h)).mono fun e w' hp => ⟨hp.1, drawnB hp.2⟩
theorem refReplace_bad (s : ByteArray) (hs : s.size ≤ 100000) (A D : Int) (ins : ByteArray) (h : ¬ (0 ≤ A ∧ 0 ≤ D ∧ A ≤ s.size ∧ D ≤ s.size - A)) (w : World) :
    Calls Try.prog 16 #[.string s, .agg #[.int .i64 A, .int .i64 D, .string ins]] w fun e w' => e = .returned (.tuple #[.string ⟨#[]⟩, .int .i64 2]) ∧ Below w.heap.size w w' := by
  refine emendateref01_Replace.calls s A D ins ⟨#[]⟩ 2 w ?_
  have g : emendateref01_Fits.f (s.size : Int) A D ins = some false := by
    unfold emendateref01_Fits.f
    by_cases h1 : A ≥ 0
    · rw [if_pos h1]
      by_cases h2 : D ≥ 0
      · rw [if_pos h2]
        by_cases h3 : A ≤ (s.size : Int)
        · have w1 : wrap64 ((s.size : Int) - A) = (s.size : Int) - A := by unfold wrap64; omega
          rw [if_pos h3, w1, decide_eq_false (by omega)]
        · rw [if_neg h3]
      · rw [if_neg h2]
    · rw [if_neg h1]
  unfold emendateref01_Replace.f
  rw [g, Option.bind_some, if_neg (by decide)]
theorem refReplace_good (s : ByteArray) (hs : s.size ≤ 100000) (A D : Nat) (ins : ByteArray) (hi : ins.size ≤ 100000) (h : A + D ≤ s.size) (w : World) :
    Calls Try.prog 16 #[.string s, .agg #[.int .i64 A, .int .i64 D, .string ins]] w fun e w' => e = .returned (.tuple #[.string ((s.extract 0 A ++ ins) ++ s.extract (A + D) s.size), .int .i64 0]) ∧ Below w.heap.size w w' := by
  refine emendateref01_Replace.calls s A D ins _ 0 w ?_
  unfold emendateref01_Replace.f emendateref01_Fits.f
  have w1 : Aside0 (wrap64 ((s.size : Int) - A) = ((s.size - A : Nat) : Int)) := Aside0.mk (by unfold wrap64; omega)
  have w2 : Aside0 (wrap64 ((A : Int) + D) = ((A + D : Nat) : Int)) := Aside0.mk (by unfold wrap64; omega)
  have s1 : (s.extract 0 A).size = A := by rw [ByteArray.size_extract]; omega
  have s2 : (s.extract (A + D) s.size).size = s.size - (A + D) := by rw [ByteArray.size_extract]; omega
  have s3 : (s.extract 0 A ++ ins).size = A + ins.size := by rw [ByteArray.size_append, s1]
  have e1 : ((A : Nat) : Int).toNat = A := rfl
  have e2 : ((A + D : Nat) : Int).toNat = A + D := rfl
  simp only [w1.out, w2.out, e1, e2]
  clear w1 w2
  rw [if_pos (by omega), if_pos (by omega), if_pos (by omega), decide_eq_true (by omega), Option.bind_some, if_pos rfl, if_pos (by omega), if_pos (by omega), if_pos (by omega), if_pos (by omega), if_pos (by omega), if_pos (by omega)]
theorem refSlice_bad (s : ByteArray) (f z : Int) (h : ¬ (0 ≤ f ∧ f ≤ z ∧ z ≤ s.size)) (w : World) :
    Calls Try.prog 18 #[.string s, .int .i64 f, .int .i64 z] w fun e w' => e = .returned (.tuple #[.string ⟨#[]⟩, .int .i64 2]) ∧ Below w.heap.size w w' := by
  refine (emendateref01_Slice.calls s f z ⟨#[]⟩ 2 w ?_).mono fun e w' hp => ⟨hp.1, drawnB hp.2⟩
  unfold emendateref01_Slice.f
  by_cases h1 : f < 0
  · rw [if_pos h1]
  · rw [if_neg h1]
    by_cases h2 : z < f
    · rw [if_pos h2]
    · rw [if_neg h2, if_pos (by omega)]
theorem refSlice_good (s : ByteArray) (f z : Nat) (h1 : f ≤ z) (h2 : z ≤ s.size) (w : World) :
    Calls Try.prog 18 #[.string s, .int .i64 f, .int .i64 z] w fun e w' => e = .returned (.tuple #[.string (s.extract f z), .int .i64 0]) ∧ Below w.heap.size w w' := by
  refine (emendateref01_Slice.calls s f z _ 0 w ?_).mono fun e w' hp => ⟨hp.1, drawnB hp.2⟩
  unfold emendateref01_Slice.f
  rw [if_neg (by omega), if_neg (by omega), if_neg (by omega), if_pos (by omega), if_pos (by omega), if_pos (by omega)]
  rfl
theorem refByte_bad (s : ByteArray) (n : Int) (h : ¬ (0 ≤ n ∧ n < s.size)) (w : World) :
    Calls Try.prog 20 #[.string s, .int .i64 n] w fun e w' => e = .returned (.tuple #[.int .u8 0, .int .i64 2]) ∧ Below w.heap.size w w' := by
  refine (emendateref01_Byte.calls s n 0 2 w ?_).mono fun e w' hp => ⟨hp.1, drawnB hp.2⟩
  unfold emendateref01_Byte.f
  by_cases h1 : n < 0
  · rw [if_pos h1]
  · rw [if_neg h1, if_pos (by omega)]
theorem refByte_good (s : ByteArray) (n : Nat) (h : n < s.size) (w : World) :
    Calls Try.prog 20 #[.string s, .int .i64 n] w fun e w' => e = .returned (.tuple #[.int .u8 (bt s n), .int .i64 0]) ∧ Below w.heap.size w w' := by
  refine (emendateref01_Byte.calls s n _ 0 w ?_).mono fun e w' hp => ⟨hp.1, drawnB hp.2⟩
  unfold emendateref01_Byte.f
  rw [if_neg (by omega), if_neg (by omega), if_pos (by omega), if_pos (by omega)]

/-- a rope variable in memory -/
structure Cel (W : World) (b : Nat) (p : Option Addr) (o : Option T) : Prop where
  blk : W.heap[b]? = some (.cells #[.pointer p] 26 (0, 0))
  at_ : At W (.pointer p) o
theorem Cel.below {W W' : World} {b : Nat} {p : Option Addr} {o : Option T} (h : Cel W b p o) (hb : Below W.heap.size W W') : Cel W' b p o := ⟨(hb.block b (lt_of_some h.blk)).trans h.blk, h.at_.below hb⟩
theorem Cel.cell {W : World} {b : Nat} {p : Option Addr} {o : Option T} (h : Cel W b p o) : W.cell? ⟨b, 0, none⟩ = some (.pointer p) := (blk_cell h.blk 0).trans rfl
/-- from the world behind the door on -/
structure Sl (w W : World) : Prop where
  b : Below w.heap.size w W
theorem Sl.then_ {w W W' : World} (h : Sl w W) (hb : Below W.heap.size W W') : Sl w W' := ⟨h.b.trans (hb.mono h.b.size)⟩

set_option maxHeartbeats 4000000 in
set_option maxRecDepth 100000 in
theorem holds_any (o : Option T) (v : Value) (w : World) (a : At w v o) (k : Ok o) (hs : siz o ≤ 6900) :
    Calls Try.prog 12 #[.agg #[v], .string (txt o)] w fun e w' => e = .returned (.bool true) ∧ Below w.heap.size w w' := by
  obtain ⟨p, rfl⟩ := a.ptr
  have C0 : Cel (w.alloc (.cells #[.pointer p] 26)) w.heap.size p o := ⟨World.alloc_heap_new w _, a.alloc _⟩
  have S0 : Sl w (w.alloc (.cells #[.pointer p] 26)) := ⟨bal _ _⟩
  obtain ⟨W, hW⟩ : ∃ W, w.alloc (.cells #[.pointer p] 26) = W := ⟨_, rfl⟩
  rw [hW] at C0 S0
  have c0 := C0.cell
  have e1 : ((siz o : Int) == ((txt o).size : Int)) = true := by rw [txt_size]; exact beq_self_eq_true _
  have e1x : (siz o == (txt o).size) = true := by rw [txt_size]; exact beq_self_eq_true _
  have e1y : decide (siz o = (txt o).size) = true := by rw [txt_size]; exact decide_eq_true rfl
  have e2 : decide ((hgt o : Int) ≤ (bnd (txt o).size : Int)) = true := by have := Ok.high k; rw [txt_size]; exact decide_eq_true (by omega)
  have e2x : decide (hgt o ≤ bnd (txt o).size) = true := by have := Ok.high k; rw [txt_size]; exact decide_eq_true (by omega)
  have HS := Aside0.mk (show (txt o).size ≤ 6900 by rw [txt_size]; exact hs)
  have HS2 := Aside0.mk (show siz o ≤ 140737488355328 by omega)
  have CA := Aside0.mk C0
  have SA := Aside0.mk S0
  clear C0 S0 hs k a
  go_enter Try.func12, Try.ntmps12
  go_wp2_with (go_at_call 23; refine (len_any o _ _ CA.out.at_).mono ?_; rintro e x1 ⟨rfl, h1⟩; have CB := Aside0.mk (CA.out.below h1); have SB := Aside0.mk (SA.out.then_ h1); have c1 := CB.out.cell; clear h1)
  go_wp2_with (go_at_call 22; refine (string_any o _ _ CB.out.at_ HS2.out).mono ?_; rintro e x2 ⟨rfl, h1⟩; have CC := Aside0.mk (CB.out.below h1); have SC := Aside0.mk (SB.out.then_ h1); have c2 := CC.out.cell; clear h1)
  go_wp2_with (go_at_call 24; refine (height_any o _ _ CC.out.at_).mono ?_; rintro e x3 ⟨rfl, h1⟩; have CD := Aside0.mk (CC.out.below h1); have SD := Aside0.mk (SC.out.then_ h1); have c3 := CD.out.cell; clear h1)
  go_wp2_with (go_at_call 24; refine (height_any o _ _ CD.out.at_).mono ?_; rintro e x4 ⟨rfl, h1⟩; have CE := Aside0.mk (CD.out.below h1); have SE := Aside0.mk (SD.out.then_ h1); have c4 := CE.out.cell; clear h1)
  go_wp2_with (go_at_call 25; refine (refBound_any _ HS.out _).mono ?_; rintro e x5 ⟨rfl, h1⟩; have SF := Aside0.mk (SE.out.then_ h1); clear h1)
  go_wp2
  go_ret
  exact ⟨rfl, SF.out.b⟩
theorem Cel.fresh {x : World} {p : Option Addr} {o : Option T} (a : At x (.pointer p) o) : Cel ((x.alloc (.cells #[.pointer none] 26)).setCell ⟨x.heap.size, 0, none⟩ (.pointer p)) x.heap.size p o :=
  ⟨blk_put (cs := #[.pointer none]) (World.alloc_heap_new x _) 0 _ rfl, (a.alloc _).set (World.alloc_heap_new x _) (by decide) 0 _⟩
theorem Sl.fresh {w x : World} (h : Sl w x) (p : Option Addr) : Sl w ((x.alloc (.cells #[.pointer none] 26)).setCell ⟨x.heap.size, 0, none⟩ (.pointer p)) :=
  ⟨(h.b.trans ((bal x _).mono h.b.size)).setCell (p := ⟨x.heap.size, 0, none⟩) h.b.size _⟩
theorem ok_small {o : Option T} (k : Ok o) (h : siz o ≤ 64) : hgt o = 0 := by
  have := Ok.high k
  unfold bnd at this
  rw [if_pos h] at this
  omega
def hello : ByteArray := ⟨#[104, 101, 108, 108, 111]⟩
def halo : ByteArray := ⟨#[104, 97, 108, 111]⟩
theorem halo_eq : (hello.extract 0 1 ++ ⟨#[97]⟩) ++ hello.extract (1 + 2) 5 = halo := by kernel_rfl
theorem al_eq : halo.extract 1 3 = ⟨#[97, 108]⟩ := by kernel_rfl
theorem halohalo_eq : halo ++ halo = ⟨#[104, 97, 108, 111, 104, 97, 108, 111]⟩ := by kernel_rfl
set_option maxHeartbeats 8000000 in
set_option maxRecDepth 100000 in
theorem awake_any (w : World) : Calls Try.prog 11 #[] w fun e w' => e = .returned (.bool true) ∧ Below w.heap.size w w' := by
  have S0 := Aside0.mk (Sl.mk (Below.refl w.heap.size w))
  go_enter Try.func11, Try.ntmps11
  go_wp2_with (go_at_call 13; refine (new_any hello (by decide) _).mono ?_; rintro e x1 ⟨v1, o1, rfl, a1, t1, k1, b1⟩; have A1 := Aside0.mk a1; have T1 := Aside0.mk t1; have S1 := Aside0.mk (S0.out.then_ b1); obtain ⟨p1, rfl⟩ := a1.ptr; clear a1 t1 b1)
  have Z1 : Aside0 (siz o1 = 5) := Aside0.mk (by rw [← txt_size, T1.out]; rfl)
  go_wp2_with (go_at_call 15; refine (replace_good o1 _ x1 A1.out k1 (by rw [Z1.out]; decide) 1 2 ⟨#[97]⟩ (by decide) (by rw [Z1.out]; decide)).mono ?_; rintro e x2 ⟨v2, o2, rfl, a2, t2, k2, b2⟩; rw [T1.out, Z1.out, halo_eq] at t2; obtain ⟨p2, rfl⟩ := a2.ptr; have C2 := Aside0.mk (Cel.fresh a2); have S2 := Aside0.mk ((S1.out.then_ b2).fresh p2); obtain ⟨X, hX⟩ : ∃ X, (x2.alloc (.cells #[.pointer none] 26)).setCell ⟨x2.heap.size, 0, none⟩ (.pointer p2) = X := ⟨_, rfl⟩; rw [hX] at C2 S2; have c2 := C2.out.cell; have T2 := Aside0.mk t2; have K2 := Aside0.mk k2; clear a2 t2 b2 k1 k2)
  have Z2 : Aside0 (siz o2 = 4) := Aside0.mk (by rw [← txt_size, T2.out]; rfl)
  have H2 : Aside0 (hgt o2 = 0) := Aside0.mk (ok_small K2.out (by rw [Z2.out]; decide))
  go_wp2_with (go_at_call 17; refine (slicem_good o2 _ X C2.out.at_ K2.out (by rw [Z2.out]; decide) 1 3 (by decide) (by rw [Z2.out]; decide)).mono ?_; rw [T2.out, al_eq]; rintro e x3 ⟨rfl, h⟩; have C3 := Aside0.mk (C2.out.below h); have S3 := Aside0.mk (S2.out.then_ h); have c3 := C3.out.cell; clear h)
  go_wp2_with (go_at_call 19; refine (byte_bad o2 _ x3 C3.out.at_ 4 (by rw [Z2.out]; decide)).mono ?_; rintro e x4 ⟨rfl, h⟩; have C4 := Aside0.mk (C3.out.below h); have S4 := Aside0.mk (S3.out.then_ h); have c4 := C4.out.cell; clear h)
  go_wp2_with (go_at_call 22; refine (string_any o2 _ x4 C4.out.at_ (by rw [Z2.out]; decide)).mono ?_; rw [T2.out, show halo = ⟨#[104, 97, 108, 111]⟩ from rfl]; rintro e x5 ⟨rfl, h⟩; have C5 := Aside0.mk (C4.out.below h); have S5 := Aside0.mk (S4.out.then_ h); have c5 := C5.out.cell; clear h)
  go_wp2_with (go_at_call 23; refine (len_any o2 _ x5 C5.out.at_).mono ?_; rw [Z2.out]; rintro e x6 ⟨rfl, h⟩; have C6 := Aside0.mk (C5.out.below h); have S6 := Aside0.mk (S5.out.then_ h); have c6 := C6.out.cell; clear h)
  go_wp2_with (go_at_call 24; refine (height_any o2 _ x6 C6.out.at_).mono ?_; rw [H2.out]; rintro e x7 ⟨rfl, h⟩; have C7 := Aside0.mk (C6.out.below h); have S7 := Aside0.mk (S6.out.then_ h); have c7 := C7.out.cell; clear h)
  go_wp2_with (go_at_call 14; refine (concat_any o2 o2 _ _ x7 C7.out.at_ K2.out C7.out.at_ K2.out (by rw [Z2.out]; decide)).mono ?_; rw [T2.out, halohalo_eq]; rintro e x8 ⟨v8, o8, rfl, a8, t8, k8, b8⟩; have A8 := Aside0.mk a8; have T8 := Aside0.mk t8; have S8 := Aside0.mk (S7.out.then_ b8); obtain ⟨p8, rfl⟩ := a8.ptr; clear a8 t8 b8 k8)
  go_wp2_with (go_at_call 22; refine (string_any o8 _ x8 A8.out (by rw [← txt_size, T8.out]; decide)).mono ?_; rw [T8.out]; rintro e x9 ⟨rfl, h⟩; have S9 := Aside0.mk (S8.out.then_ h); clear h)
  go_wp2
  go_ret
  exact ⟨rfl, S9.out.b⟩
end Go.Proofs.Ytmoceagbmgoijaa.Rop
