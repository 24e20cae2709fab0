/- A part of a law as a program wrote it (wip/myprint.py, over the print of the kit): a function, what its call does, or the row of a law; Lean checks it. -/
import Derived.Test.YthhgfagnallcnaaPAx0
import Derived.Test.YthhgfagnallcnaaPAx11
namespace Go.Proofs.Ythhgfagnallcnaa.PA
open Go.RowKit Go.Proofs.YthhgfagnallcnaaW.PrintWords Go.Proofs.YthhgfagnallcnaaW.PrintLast Go.Proofs.YthhgfagnallcnaaW.PrintMore
attribute [local go_sem] max2_int min2_int max_two min_two max_three min_three max_four min_four   -- for this text's walks alone
set_option linter.unusedVariables false
set_option linter.unusedSimpArgs false
theorem sq0_ {α : Type _} (l : List α) (i : Nat) (a : α) : l.toArray.setIfInBounds i a = (l.set i a).toArray := List.setIfInBounds_toArray ..
theorem sq1_ {α : Type _} {x a : α} {l : List α} : (x :: l).set 0 a = a :: l := List.set_cons_zero
theorem sq2_ {α : Type _} {x a : α} {l : List α} {n : Nat} : (x :: l).set (n + 1) a = x :: l.set n a := List.set_cons_succ

/-! ### emendateref06_Diff: function 16 -/
mutual
def emendateref06_Diff.l0 : Nat → ByteArray → ByteArray → List Int → Int → List (S30) → Bool → Int → Int → Int → Int → ByteArray → Option ((List (S30)))
 | 0, _, _, _, _, _, _, _, _, _, _, _ => none
 | k + 1, x0, x1, x5, x6, x7, x9, x10, x11, x150000, x150001, x150002 => if x10 < (x0.size : Int) then (emendateref06_Diff.j1 k x0 x1 x5 x6 x7 x9 x10 x11 true x150000 x150001 x150002) else (emendateref06_Diff.j1 k x0 x1 x5 x6 x7 x9 x10 x11 (decide (x11 < (x1.size : Int))) x150000 x150001 x150002)
def emendateref06_Diff.j1 : Nat → ByteArray → ByteArray → List Int → Int → List (S30) → Bool → Int → Int → Bool → Int → Int → ByteArray → Option ((List (S30)))
 | 0, _, _, _, _, _, _, _, _, _, _, _, _ => none
 | k + 1, x0, x1, x5, x6, x7, x9, x10, x11, x28, x150000, x150001, x150002 => if x28 = true then (if x10 < (x0.size : Int) then (if x11 < (x1.size : Int) then (if 0 ≤ x10 then (if 0 ≤ x11 then (emendateref06_Diff.j2 k x0 x1 x5 x6 x7 x9 x10 x11 ((bt x0 x10) == (bt x1 x11)) x150000 x150001 x150002) else (none)) else (none)) else (emendateref06_Diff.j2 k x0 x1 x5 x6 x7 x9 x10 x11 false x150000 x150001 x150002)) else (emendateref06_Diff.j2 k x0 x1 x5 x6 x7 x9 x10 x11 false x150000 x150001 x150002)) else (if x9 = true then (if x7.length < 4398046511104 then (some (x7 ++ [(⟨x150000, x150001, x150002⟩ : S30)])) else (none)) else (some x7))
def emendateref06_Diff.j2 : Nat → ByteArray → ByteArray → List Int → Int → List (S30) → Bool → Int → Int → Bool → Int → Int → ByteArray → Option ((List (S30)))
 | 0, _, _, _, _, _, _, _, _, _, _, _, _ => none
 | k + 1, x0, x1, x5, x6, x7, x9, x10, x11, x47, x150000, x150001, x150002 => if x47 = true then (if x9 = true then (if x7.length < 4398046511104 then (emendateref06_Diff.l0 k x0 x1 x5 x6 (x7 ++ [(⟨x150000, x150001, x150002⟩ : S30)]) false (wrap64 (x10 + 1)) (wrap64 (x11 + 1)) x150000 x150001 x150002) else (none)) else (emendateref06_Diff.l0 k x0 x1 x5 x6 x7 x9 (wrap64 (x10 + 1)) (wrap64 (x11 + 1)) x150000 x150001 x150002)) else (if x9 = true then (if x11 = (x1.size : Int) then (emendateref06_Diff.l0 k x0 x1 x5 x6 x7 x9 (wrap64 (x10 + 1)) x11 x150000 (wrap64 (x150001 + 1)) x150002) else (if x10 < (x0.size : Int) then (if 0 ≤ (wrap64 ((wrap64 ((wrap64 (x10 + 1)) * x6)) + x11)) then (if (wrap64 ((wrap64 ((wrap64 (x10 + 1)) * x6)) + x11)) < (x5.length : Int) then (if 0 ≤ (wrap64 ((wrap64 ((wrap64 (x10 * x6)) + x11)) + 1)) then (if (wrap64 ((wrap64 ((wrap64 (x10 * x6)) + x11)) + 1)) < (x5.length : Int) then (if (rd x5 (wrap64 ((wrap64 ((wrap64 (x10 + 1)) * x6)) + x11))) ≤ (rd x5 (wrap64 ((wrap64 ((wrap64 (x10 * x6)) + x11)) + 1))) then (emendateref06_Diff.l0 k x0 x1 x5 x6 x7 x9 (wrap64 (x10 + 1)) x11 x150000 (wrap64 (x150001 + 1)) x150002) else (if 0 ≤ x11 then (if x11 ≤ (wrap64 (x11 + 1)) then (if (wrap64 (x11 + 1)) ≤ (x1.size : Int) then (if x150002.size + (x1.extract (x11 : Int).toNat ((wrap64 (x11 + 1)) : Int).toNat).size ≤ 9223372036854775807 then (emendateref06_Diff.l0 k x0 x1 x5 x6 x7 x9 x10 (wrap64 (x11 + 1)) x150000 x150001 (x150002 ++ (x1.extract (x11 : Int).toNat ((wrap64 (x11 + 1)) : Int).toNat))) else (none)) else (none)) else (none)) else (none))) else (none)) else (none)) else (none)) else (none)) else (if 0 ≤ x11 then (if x11 ≤ (wrap64 (x11 + 1)) then (if (wrap64 (x11 + 1)) ≤ (x1.size : Int) then (if x150002.size + (x1.extract (x11 : Int).toNat ((wrap64 (x11 + 1)) : Int).toNat).size ≤ 9223372036854775807 then (emendateref06_Diff.l0 k x0 x1 x5 x6 x7 x9 x10 (wrap64 (x11 + 1)) x150000 x150001 (x150002 ++ (x1.extract (x11 : Int).toNat ((wrap64 (x11 + 1)) : Int).toNat))) else (none)) else (none)) else (none)) else (none)))) else (if x11 = (x1.size : Int) then (emendateref06_Diff.l0 k x0 x1 x5 x6 x7 true (wrap64 (x10 + 1)) x11 x10 1 (⟨#[]⟩ : ByteArray)) else (if x10 < (x0.size : Int) then (if 0 ≤ (wrap64 ((wrap64 ((wrap64 (x10 + 1)) * x6)) + x11)) then (if (wrap64 ((wrap64 ((wrap64 (x10 + 1)) * x6)) + x11)) < (x5.length : Int) then (if 0 ≤ (wrap64 ((wrap64 ((wrap64 (x10 * x6)) + x11)) + 1)) then (if (wrap64 ((wrap64 ((wrap64 (x10 * x6)) + x11)) + 1)) < (x5.length : Int) then (if (rd x5 (wrap64 ((wrap64 ((wrap64 (x10 + 1)) * x6)) + x11))) ≤ (rd x5 (wrap64 ((wrap64 ((wrap64 (x10 * x6)) + x11)) + 1))) then (emendateref06_Diff.l0 k x0 x1 x5 x6 x7 true (wrap64 (x10 + 1)) x11 x10 1 (⟨#[]⟩ : ByteArray)) else (if 0 ≤ x11 then (if x11 ≤ (wrap64 (x11 + 1)) then (if (wrap64 (x11 + 1)) ≤ (x1.size : Int) then (if 0 + (x1.extract (x11 : Int).toNat ((wrap64 (x11 + 1)) : Int).toNat).size ≤ 9223372036854775807 then (emendateref06_Diff.l0 k x0 x1 x5 x6 x7 true x10 (wrap64 (x11 + 1)) x10 0 ((⟨#[]⟩ : ByteArray) ++ (x1.extract (x11 : Int).toNat ((wrap64 (x11 + 1)) : Int).toNat))) else (none)) else (none)) else (none)) else (none))) else (none)) else (none)) else (none)) else (none)) else (if 0 ≤ x11 then (if x11 ≤ (wrap64 (x11 + 1)) then (if (wrap64 (x11 + 1)) ≤ (x1.size : Int) then (if 0 + (x1.extract (x11 : Int).toNat ((wrap64 (x11 + 1)) : Int).toNat).size ≤ 9223372036854775807 then (emendateref06_Diff.l0 k x0 x1 x5 x6 x7 true x10 (wrap64 (x11 + 1)) x10 0 ((⟨#[]⟩ : ByteArray) ++ (x1.extract (x11 : Int).toNat ((wrap64 (x11 + 1)) : Int).toNat))) else (none)) else (none)) else (none)) else (none)))))
end
def emendateref06_Diff.f (k : Nat) (a0 : ByteArray) (a1 : ByteArray) : Option ((List (S30))) := (emendateref06_Table.f k a0 a1).bind fun t146 => (emendateref06_Diff.l0 k a0 a1 t146 (wrap64 ((a1.size : Int) + 1)) ([] : List (S30)) false 0 0 0 0 (⟨#[]⟩ : ByteArray))
theorem emendateref06_Diff.mono_l : ∀ k, (∀ y0 y1 y2 y3 y4 y5 y6 y7 y8 y9 y10, LeO (emendateref06_Diff.l0 k y0 y1 y2 y3 y4 y5 y6 y7 y8 y9 y10) (emendateref06_Diff.l0 (k + 1) y0 y1 y2 y3 y4 y5 y6 y7 y8 y9 y10)) ∧ (∀ y0 y1 y2 y3 y4 y5 y6 y7 y8 y9 y10 y11, LeO (emendateref06_Diff.j1 k y0 y1 y2 y3 y4 y5 y6 y7 y8 y9 y10 y11) (emendateref06_Diff.j1 (k + 1) y0 y1 y2 y3 y4 y5 y6 y7 y8 y9 y10 y11)) ∧ (∀ y0 y1 y2 y3 y4 y5 y6 y7 y8 y9 y10 y11, LeO (emendateref06_Diff.j2 k y0 y1 y2 y3 y4 y5 y6 y7 y8 y9 y10 y11) (emendateref06_Diff.j2 (k + 1) y0 y1 y2 y3 y4 y5 y6 y7 y8 y9 y10 y11))
 | 0 => ⟨fun _ _ _ _ _ _ _ _ _ _ _ r h => by simp [emendateref06_Diff.l0] at h, fun _ _ _ _ _ _ _ _ _ _ _ _ r h => by simp [emendateref06_Diff.j1] at h, fun _ _ _ _ _ _ _ _ _ _ _ _ r h => by simp [emendateref06_Diff.j2] at h⟩
 | k + 1 => by
  obtain ⟨ih0, ih1, ih2⟩ := emendateref06_Diff.mono_l k
  refine ⟨?_, ?_, ?_⟩
  ·
   intro y0 y1 y2 y3 y4 y5 y6 y7 y8 y9 y10
   unfold emendateref06_Diff.l0
   repeat' first
   | (with_reducible exact ih0 _ _ _ _ _ _ _ _ _ _ _)
   | (with_reducible exact ih1 _ _ _ _ _ _ _ _ _ _ _ _)
   | (with_reducible exact ih2 _ _ _ _ _ _ _ _ _ _ _ _)
   | (with_reducible exact emendateref06_Table.mono _ _ _)
   | (with_reducible exact LeO.refl _)
   | (with_reducible exact LeO.none _)
   | (with_reducible refine LeO.ite ?_ ?_)
   | (with_reducible refine LeO.bind ?_ (fun _ => ?_))
   | exact ih0 _ _ _ _ _ _ _ _ _ _ _
   | exact ih1 _ _ _ _ _ _ _ _ _ _ _ _
   | exact ih2 _ _ _ _ _ _ _ _ _ _ _ _
   | exact emendateref06_Table.mono _ _ _
   | exact LeO.none _
   | refine LeO.ite ?_ ?_
   | refine LeO.bind ?_ (fun _ => ?_)
  ·
   intro y0 y1 y2 y3 y4 y5 y6 y7 y8 y9 y10 y11
   unfold emendateref06_Diff.j1
   repeat' first
   | (with_reducible exact ih0 _ _ _ _ _ _ _ _ _ _ _)
   | (with_reducible exact ih1 _ _ _ _ _ _ _ _ _ _ _ _)
   | (with_reducible exact ih2 _ _ _ _ _ _ _ _ _ _ _ _)
   | (with_reducible exact emendateref06_Table.mono _ _ _)
   | (with_reducible exact LeO.refl _)
   | (with_reducible exact LeO.none _)
   | (with_reducible refine LeO.ite ?_ ?_)
   | (with_reducible refine LeO.bind ?_ (fun _ => ?_))
   | exact ih0 _ _ _ _ _ _ _ _ _ _ _
   | exact ih1 _ _ _ _ _ _ _ _ _ _ _ _
   | exact ih2 _ _ _ _ _ _ _ _ _ _ _ _
   | exact emendateref06_Table.mono _ _ _
   | exact LeO.none _
   | refine LeO.ite ?_ ?_
   | refine LeO.bind ?_ (fun _ => ?_)
  ·
   intro y0 y1 y2 y3 y4 y5 y6 y7 y8 y9 y10 y11
   unfold emendateref06_Diff.j2
   repeat' first
   | (with_reducible exact ih0 _ _ _ _ _ _ _ _ _ _ _)
   | (with_reducible exact ih1 _ _ _ _ _ _ _ _ _ _ _ _)
   | (with_reducible exact ih2 _ _ _ _ _ _ _ _ _ _ _ _)
   | (with_reducible exact emendateref06_Table.mono _ _ _)
   | (with_reducible exact LeO.refl _)
   | (with_reducible exact LeO.none _)
   | (with_reducible refine LeO.ite ?_ ?_)
   | (with_reducible refine LeO.bind ?_ (fun _ => ?_))
   | exact ih0 _ _ _ _ _ _ _ _ _ _ _
   | exact ih1 _ _ _ _ _ _ _ _ _ _ _ _
   | exact ih2 _ _ _ _ _ _ _ _ _ _ _ _
   | exact emendateref06_Table.mono _ _ _
   | exact LeO.none _
   | refine LeO.ite ?_ ?_
   | refine LeO.bind ?_ (fun _ => ?_)
theorem emendateref06_Diff.mono : ∀ a0 a1 k, LeO (emendateref06_Diff.f k a0 a1) (emendateref06_Diff.f (k + 1) a0 a1) := by
 intro a0 a1 k
 obtain ⟨ih0, ih1, ih2⟩ := emendateref06_Diff.mono_l k
 unfold emendateref06_Diff.f
 repeat' first
   | (with_reducible exact ih0 _ _ _ _ _ _ _ _ _ _ _)
   | (with_reducible exact ih1 _ _ _ _ _ _ _ _ _ _ _ _)
   | (with_reducible exact ih2 _ _ _ _ _ _ _ _ _ _ _ _)
   | (with_reducible exact emendateref06_Table.mono _ _ _)
   | (with_reducible exact LeO.refl _)
   | (with_reducible exact LeO.none _)
   | (with_reducible refine LeO.ite ?_ ?_)
   | (with_reducible refine LeO.bind ?_ (fun _ => ?_))
   | exact ih0 _ _ _ _ _ _ _ _ _ _ _
   | exact ih1 _ _ _ _ _ _ _ _ _ _ _ _
   | exact ih2 _ _ _ _ _ _ _ _ _ _ _ _
   | exact emendateref06_Table.mono _ _ _
   | exact LeO.none _
   | refine LeO.ite ?_ ?_
   | refine LeO.bind ?_ (fun _ => ?_)
def emendateref06_Diff.T8 : Bool × List (List Nat × List Nat) := (true, [([], []), ([], []), ([1], [1]), ([0, 2], [0, 2]), ([3], [3]), ([4], [4]), ([4], [4]), ([6, 4], [4, 6]), ([5, 7, 4], [4, 5, 7]), ([4, 8], [4, 8]), ([9, 4], [9]), ([10], [10]), ([10], [10]), ([11, 12, 10], [10, 11, 12]), ([10], [10]), ([10], [10]), ([14, 15, 10], [10, 14, 15]), ([13, 16, 10], [10, 13, 16]), ([10, 17], [10, 17])])
def emendateref06_Diff.B8 : List Nat := [0, 0, 2, 7, 15, 31, 31, 95, 255, 511, 1023, 2047, 2047, 8191, 2047, 2047, 51199, 131071, 262143]
theorem emendateref06_Diff.tab8 : rtab .any (opsOf Try.f16 8) = emendateref06_Diff.T8 := by kernel_rfl
theorem emendateref06_Diff.bits8 : waitsOk emendateref06_Diff.T8.2 emendateref06_Diff.B8 = true := by kernel_rfl
def emendateref06_Diff.T16 : Bool × List (List Nat × List Nat) := (true, [([], []), ([], []), ([1], [1]), ([0, 2], [0, 2]), ([3], [3]), ([4], [4]), ([4], [4]), ([6, 4], [4, 6]), ([5, 7, 4], [4, 5, 7]), ([8, 4, 4], [4, 8]), ([9], [9]), ([9], [9]), ([11, 9], [9, 11]), ([9], [9]), ([12, 13, 9], [9, 12, 13]), ([9], [9]), ([14, 15, 9], [9, 14, 15]), ([10, 16, 9], [9, 10, 16]), ([17, 9], [9, 17]), ([9], [9]), ([9], [9]), ([9], [9]), ([20, 21, 9], [9, 20, 21]), ([9], [9]), ([22, 23, 9], [9, 22, 23]), ([24, 9], [9, 24]), ([19, 25, 9], [9, 19, 25]), ([26, 9], [9, 26]), ([18, 27, 9], [9, 18, 27]), ([9, 28, 4], [4, 9, 28]), ([4, 29], [4, 29])])
def emendateref06_Diff.B16 : List Nat := [0, 0, 2, 7, 15, 31, 31, 95, 255, 511, 1023, 1023, 3071, 1023, 15359, 1023, 64511, 131071, 262143, 1023, 1023, 1023, 3146751, 1023, 15729663, 32506879, 66585599, 133694463, 268435455, 536870911, 1073741823]
theorem emendateref06_Diff.tab16 : rtab .any (opsOf Try.f16 16) = emendateref06_Diff.T16 := by kernel_rfl
theorem emendateref06_Diff.bits16 : waitsOk emendateref06_Diff.T16.2 emendateref06_Diff.B16 = true := by kernel_rfl
def emendateref06_Diff.T19 : Bool × List (List Nat × List Nat) := (true, [([], []), ([0], [0]), ([], []), ([], []), ([], []), ([4], [4]), ([2, 3, 5], [2, 3, 5]), ([1, 6], [1, 6]), ([0, 1, 2, 3, 4, 5, 6, 7], []), ([8, 7, 0, 1, 2, 3, 4, 5, 6, 7], [7, 8])])
def emendateref06_Diff.B19 : List Nat := [0, 1, 0, 0, 0, 16, 60, 127, 255, 511]
theorem emendateref06_Diff.tab19 : rtab .any (opsOf Try.f16 19) = emendateref06_Diff.T19 := by kernel_rfl
theorem emendateref06_Diff.bits19 : waitsOk emendateref06_Diff.T19.2 emendateref06_Diff.B19 = true := by kernel_rfl
set_option maxHeartbeats 8000000 in
set_option maxRecDepth 100000 in
theorem emendateref06_Diff.calls (k : Nat) (a0 : ByteArray) (a1 : ByteArray) (r : List (S30)) (w : World) (h : emendateref06_Diff.f k a0 a1 = some r) :
  Calls Try.prog 16 #[.string a0, .string a1] w fun e w' => ∃ v0_ : Value, e = .returned (v0_) ∧ Kd.R k30 30 w' w.heap.size (fun _ => True) v0_ r ∧ Below w.heap.size w w' := by
 have hu30 := Try.underlying30
 have HB := Aside0.mk (Below.refl w.heap.size w)
 have H : ((emendateref06_Table.f k a0 a1).bind fun t146 => (emendateref06_Diff.l0 k a0 a1 t146 (wrap64 ((a1.size : Int) + 1)) ([] : List (S30)) false 0 0 0 0 (⟨#[]⟩ : ByteArray))) = some r := h
 clear h
 replace H := Option.bind_eq_some_iff.mp H
 obtain ⟨t146, A30, H⟩ := H
 replace H : (emendateref06_Diff.l0 k a0 a1 t146 (wrap64 ((a1.size : Int) + 1)) ([] : List (S30)) false 0 0 0 0 (⟨#[]⟩ : ByteArray)) = some r := H
 have A3 := Aside0.mk A30
 clear A30
 have H' := Aside0.mk H
 clear H
 go_enter Try.func16, Try.ntmps16
 go_wp2_with (first | ((with_reducible refine gate_callee (f := 23) rfl ?_); refine goesL_ (some 14) rfl rfl Try.func23 (by kernel_rfl) rfl #[.string a0, .string a1] rfl (by (try simp only [List.map_toArray, List.map_cons, List.map_nil]); first | done | rfl | (simp only [List.length_drop, List.length_take]; rfl)) ?_; (with_reducible refine (emendateref06_Table.calls k a0 a1 t146 _ A3.out).mono ?_); rintro e w4 ⟨v147, rfl, ho0, hb⟩; refine ⟨_, rfl, ?_⟩; have n0_ := Aside0.mk (Kd.R_lower ho0 (below_size (by repeat (first | (with_reducible first | exact HB.out | apply below_alloc | apply pw_below_drewN | apply below_drew1) | exact HB.out)))); have n1_ := Aside0.mk (below_step (by repeat (first | (with_reducible first | exact HB.out | apply below_alloc | apply pw_below_drewN | apply below_drew1) | exact HB.out)) hb); clear HB; have HO148 := n0_; have HB := n1_; clear n0_ n1_; (try clear hb); (try clear hb2); (try clear hk); (try clear hi); (try clear ho0)) | ((with_reducible refine gate_dst (N := 8) rfl ?_); (try (refine gate_guard (by rfl) ?_; dsimp only)); refine box_event ?hg (N := 8) ?hd (cs := #[.int .i64 0, .int .i64 0, .string (⟨#[]⟩ : ByteArray)]) (t := 30) ?hr ?_; (case hd => rfl); (case hg => rfl); (case hr => first | (go_simp; done) | (go_simp; rfl)); intro gb149 hg w5 hbox hb; have n0_ := Aside0.mk (Kd.R_below (by (with_reducible repeat (first | apply Kd.R_alloc | apply Kd.R_drewN | apply Kd.R_drew)); exact HO148.out) hb); have n1_ := Aside0.mk (below_step (by repeat (first | (with_reducible first | exact HB.out | apply below_alloc | apply pw_below_drewN | apply below_drew1) | exact HB.out)) hb); have n2_ := Aside0.mk (hbox); have n3_ := Aside0.mk ((by rw [hg]; exact (below_size (by repeat (first | (with_reducible first | exact HB.out | apply below_alloc | apply pw_below_drewN | apply below_drew1) | exact HB.out))) : w.heap.size ≤ gb149)); have n4_ := Aside0.mk ((by rw [hg]; exact (below_size (by repeat (first | (with_reducible first | exact HB.out | apply below_alloc | apply pw_below_drewN | apply below_drew1) | exact HB.out))) : w.heap.size ≤ gb149)); clear HO148; clear HB; have HO148 := n0_; have HB := n1_; have BK149 := n2_; have GW149 := n3_; have GE149 := n4_; clear n0_ n1_ n2_ n3_ n4_; clear hb hbox hg; have hcz6_0 : w5.cell? ⟨gb149, 0, none⟩ = some (.int .i64 0) := (blk_cell BK149.out 0).trans rfl; have hcz6_1 : w5.cell? ⟨gb149, 1, none⟩ = some (.int .i64 0) := (blk_cell BK149.out 1).trans rfl; have hcz6_2 : w5.cell? ⟨gb149, 2, none⟩ = some (.string (⟨#[]⟩ : ByteArray)) := (blk_cell BK149.out 2).trans rfl; have hfz6_0 := blk_frozen BK149.out 0; have hfz6_1 := blk_frozen BK149.out 1; have hfz6_2 := blk_frozen BK149.out 2))
 go_loopg [7, 9, 10, 11] k (fun kq v7 v9 v10 v11 w' => ∃ (x7_1 : List (S30)) (x9_1 : Bool) (x10_1 : Int) (x11_1 : Int) (x150000_1 : Int) (x150001_1 : Int) (x150002_1 : ByteArray), v9 = .bool x9_1 ∧ v10 = .int .i64 x10_1 ∧ v11 = .int .i64 x11_1 ∧ Aside0 (emendateref06_Diff.l0 kq a0 a1 t146 (wrap64 ((a1.size : Int) + 1)) x7_1 x9_1 x10_1 x11_1 x150000_1 x150001_1 x150002_1 = some r) ∧ Aside0 (kq ≤ k) ∧ Aside0 (Kd.R (Kd.int .i64) 3 w' w.heap.size (fun _ => True) v147 t146) ∧ Aside0 (Kd.R k30 30 w' w.heap.size (fun k_ => k_ ≠ gb149) v7 x7_1) ∧ Aside0 (w'.heap[gb149]? = some (.cells #[.int .i64 x150000_1, .int .i64 x150001_1, .string x150002_1] 30 (0, 0))) ∧ Aside0 (Below w.heap.size w w'))
 case atStart => exact ⟨(([] : List (S30))), (false), (0), (0), (0), (0), ((⟨#[]⟩ : ByteArray)), (by first | rfl | (simp; done) | (simp [*]; done)), (by first | rfl | (simp; done) | (simp [*]; done)), (by first | rfl | (simp; done) | (simp [*]; done)), H', ⟨Nat.le_refl _⟩, ⟨by (with_reducible repeat (first | apply Kd.R_alloc | apply Kd.R_drewN | apply Kd.R_drew)); exact Kd.R_mono (Kd.R_far (p := ⟨gb149, 2, none⟩) (Kd.R_far (p := ⟨gb149, 1, none⟩) (Kd.R_far (p := ⟨gb149, 0, none⟩) (Kd.R_types HO148.out BK149.out (by decide)) (fun _ hk => hk.2) (.int .i64 0)) (fun _ hk => hk.2) (.int .i64 0)) (fun _ hk => hk.2) (.string (⟨#[]⟩ : ByteArray))) (fun _ hk => trivial)⟩, ⟨by first | exact Kd.R_nil _ _ _ _ _ | exact Kd.N_nil _ _ _ _ _ | exact Kd.V_nil _ _ _ _ _ | exact Kd.Q_nil _ _ _ _ _ | exact Kd.S_nil _ _ _ _ _⟩, ⟨by (with_reducible repeat (first | refine blk_drewN ?_ _ | refine blk_drew ?_ | refine blk_alloc ?_ _)); refine blk_put (cs := #[.int .i64 0, .int .i64 0, .string (⟨#[]⟩ : ByteArray)]) ?_ 2 _ rfl; (with_reducible repeat (first | refine blk_drewN ?_ _ | refine blk_drew ?_ | refine blk_alloc ?_ _)); refine blk_put (cs := #[.int .i64 0, .int .i64 0, .string (⟨#[]⟩ : ByteArray)]) ?_ 1 _ rfl; (with_reducible repeat (first | refine blk_drewN ?_ _ | refine blk_drew ?_ | refine blk_alloc ?_ _)); refine blk_put (cs := #[.int .i64 0, .int .i64 0, .string (⟨#[]⟩ : ByteArray)]) ?_ 0 _ rfl; (with_reducible repeat (first | refine blk_drewN ?_ _ | refine blk_drew ?_ | refine blk_alloc ?_ _)); exact BK149.out⟩, ⟨by repeat (first | (with_reducible first | exact HB.out | apply below_alloc | apply pw_below_drewN | apply below_drew1 | refine below_set ?_ GE149.out) | exact HB.out)⟩⟩
 case round =>
  clear H'
  try clear c1
  try clear c2
  try clear p2
  try clear p6
  try clear hcz6_0
  try clear hcz6_1
  try clear hcz6_2
  try clear hfz6_0
  try clear hfz6_1
  try clear hfz6_2
  obtain ⟨x7_1, x9_1, x10_1, x11_1, x150000_1, x150001_1, x150002_1, rfl, rfl, rfl, HA, HK1, HO_5, HO_7, BK149, HB⟩ := hrel
  cases gk with
  | zero => exact absurd HA.out (by simp [emendateref06_Diff.l0])
  | succ k1 =>
   have H := HA.out
   clear HA
   simp only [emendateref06_Diff.l0] at H
   have HC7 := Aside0.mk H
   clear H
   go_upto_region 7 with (fail)
   go_cut [28] (fun v28 wc => ∃ (kq : Nat) (x28_6 : Bool), v28 = .bool x28_6 ∧ Aside0 (emendateref06_Diff.j1 kq a0 a1 t146 (wrap64 ((a1.size : Int) + 1)) x7_1 x9_1 x10_1 x11_1 x28_6 x150000_1 x150001_1 x150002_1 = some r) ∧ Aside0 (kq ≤ k1) ∧ Aside0 (Kd.R (Kd.int .i64) 3 wc w.heap.size (fun _ => True) v147 t146) ∧ Aside0 (Kd.R k30 30 wc w.heap.size (fun k_ => k_ ≠ gb149) u7 x7_1) ∧ Aside0 (wc.heap[gb149]? = some (.cells #[.int .i64 x150000_1, .int .i64 x150001_1, .string x150002_1] 30 (0, 0))) ∧ Aside0 (Below w.heap.size w wc))
   case first =>
    have H := HC7.out
    clear HC7
    by_cases c8 : x10_1 < (a0.size : Int)
    ·
     rw [if_pos c8] at H
     have c8b0 : decide (x10_1 < (a0.size : Int)) = true := decide_eq_true c8
     clear c8
     (first | rw [c8b0] | (simp only [i64_w, i32_w]; rw [c8b0]) | skip)
     have H' := Aside0.mk H
     clear H
     go_wp2
     go_meet
     case rel => exact ⟨_, (true), (by first | rfl | (simp; done) | (simp [*]; done)), H', ⟨by have := HK1.out; first | omega | exact Nat.le_refl _⟩, ⟨by (with_reducible repeat (first | apply Kd.R_alloc | apply Kd.R_drewN | apply Kd.R_drew)); exact HO_5.out⟩, ⟨by (with_reducible repeat (first | apply Kd.R_alloc | apply Kd.R_drewN | apply Kd.R_drew)); exact HO_7.out⟩, ⟨by (with_reducible repeat (first | refine blk_drewN ?_ _ | refine blk_drew ?_ | refine blk_alloc ?_ _)); exact BK149.out⟩, ⟨by repeat (first | (with_reducible first | exact HB.out | apply below_alloc | apply pw_below_drewN | apply below_drew1 | refine below_set ?_ GE149.out) | exact HB.out)⟩⟩
    ·
     rw [if_neg c8] at H
     have c8b0 : decide (x10_1 < (a0.size : Int)) = false := decide_eq_false c8
     clear c8
     (first | rw [c8b0] | (simp only [i64_w, i32_w]; rw [c8b0]) | skip)
     have H' := Aside0.mk H
     clear H
     go_wp2
     go_meet
     case rel => exact ⟨_, (decide (x11_1 < (a1.size : Int))), (by first | rfl | (simp; done) | (simp [*]; done)), H', ⟨by have := HK1.out; first | omega | exact Nat.le_refl _⟩, ⟨by (with_reducible repeat (first | apply Kd.R_alloc | apply Kd.R_drewN | apply Kd.R_drew)); exact HO_5.out⟩, ⟨by (with_reducible repeat (first | apply Kd.R_alloc | apply Kd.R_drewN | apply Kd.R_drew)); exact HO_7.out⟩, ⟨by (with_reducible repeat (first | refine blk_drewN ?_ _ | refine blk_drew ?_ | refine blk_alloc ?_ _)); exact BK149.out⟩, ⟨by repeat (first | (with_reducible first | exact HB.out | apply below_alloc | apply pw_below_drewN | apply below_drew1 | refine below_set ?_ GE149.out) | exact HB.out)⟩⟩
   case rest =>
    clear HC7
    try clear c1
    try clear c2
    try clear p2
    try clear p6
    try clear c8
    try clear c8b0
    try clear hcz6_0
    try clear hcz6_1
    try clear hcz6_2
    try clear hfz6_0
    try clear hfz6_1
    try clear hfz6_2
    try clear p2
    try clear p6
    obtain ⟨kq, x28_6, rfl, HA, HJ6, HO_5, HO_7, BK149, HB⟩ := hcut
    cases kq with
    | zero => exact absurd HA.out (by simp [emendateref06_Diff.j1])
    | succ kj6 =>
     have H := HA.out
     clear HA
     simp only [emendateref06_Diff.j1] at H
     by_cases c9 : x28_6 = true
     ·
      subst c9
      have H1 : (if x10_1 < (a0.size : Int) then (if x11_1 < (a1.size : Int) then (if 0 ≤ x10_1 then (if 0 ≤ x11_1 then (emendateref06_Diff.j2 kj6 a0 a1 t146 (wrap64 ((a1.size : Int) + 1)) x7_1 x9_1 x10_1 x11_1 ((bt a0 x10_1) == (bt a1 x11_1)) x150000_1 x150001_1 x150002_1) else (none)) else (none)) else (emendateref06_Diff.j2 kj6 a0 a1 t146 (wrap64 ((a1.size : Int) + 1)) x7_1 x9_1 x10_1 x11_1 false x150000_1 x150001_1 x150002_1)) else (emendateref06_Diff.j2 kj6 a0 a1 t146 (wrap64 ((a1.size : Int) + 1)) x7_1 x9_1 x10_1 x11_1 false x150000_1 x150001_1 x150002_1)) = some r := by rw [if_pos rfl] at H; exact H
      clear H
      have H := H1
      clear H1
      have HC10 := Aside0.mk H
      clear H
      go_upto_region 8 with (fail)
      go_cut [47] (fun v47 wc => ∃ (kq : Nat) (x47_9 : Bool), v47 = .bool x47_9 ∧ Aside0 (emendateref06_Diff.j2 kq a0 a1 t146 (wrap64 ((a1.size : Int) + 1)) x7_1 x9_1 x10_1 x11_1 x47_9 x150000_1 x150001_1 x150002_1 = some r) ∧ Aside0 (kq ≤ kj6) ∧ Aside0 (Kd.R (Kd.int .i64) 3 wc w.heap.size (fun _ => True) v147 t146) ∧ Aside0 (Kd.R k30 30 wc w.heap.size (fun k_ => k_ ≠ gb149) u7 x7_1) ∧ Aside0 (wc.heap[gb149]? = some (.cells #[.int .i64 x150000_1, .int .i64 x150001_1, .string x150002_1] 30 (0, 0))) ∧ Aside0 (Below w.heap.size w wc))
      case first =>
       have H := HC10.out
       clear HC10
       by_cases c11 : x10_1 < (a0.size : Int)
       ·
        rw [if_pos c11] at H
        have c11b0 : decide (x10_1 < (a0.size : Int)) = true := decide_eq_true c11
        clear c11
        (first | rw [c11b0] | (simp only [i64_w, i32_w]; rw [c11b0]) | skip)
        by_cases c12 : x11_1 < (a1.size : Int)
        ·
         rw [if_pos c12] at H
         have c12b0 : decide (x11_1 < (a1.size : Int)) = true := decide_eq_true c12
         clear c12
         by_cases c13 : 0 ≤ x10_1
         ·
          rw [if_pos c13] at H
          have c13b0 : decide (0 ≤ x10_1) = true := decide_eq_true c13
          clear c13
          by_cases c15 : 0 ≤ x11_1
          ·
           rw [if_pos c15] at H
           have c15b0 : decide (0 ≤ x11_1) = true := decide_eq_true c15
           clear c15
           have H' := Aside0.mk H
           clear H
           try go_wp2
           have n0_ := Aside0.mk (Kd.R_drew HO_5.out)
           have n1_ := Aside0.mk (Kd.R_drew HO_7.out)
           have n2_ := Aside0.mk (blk_drew BK149.out)
           have n3_ := Aside0.mk (below_drew1 HB.out)
           clear HO_5
           clear HO_7
           clear BK149
           clear HB
           have HO_5 := n0_
           have HO_7 := n1_
           have BK149 := n2_
           have HB := n3_
           clear n0_ n1_ n2_ n3_
           have p14 : 0 ≤ (x10_1 : Int) := of_decide_eq_true (by first | (with_reducible assumption) | assumption)
           have q14 : x10_1 < (a0.size : Int) := of_decide_eq_true (by first | (with_reducible assumption) | assumption)
           have hx14 := bt_at a0 x10_1
           replace p14 := eq_true p14
           replace q14 := eq_true q14
           have p16 : 0 ≤ (x11_1 : Int) := of_decide_eq_true (by first | (with_reducible assumption) | assumption)
           have q16 : x11_1 < (a1.size : Int) := of_decide_eq_true (by first | (with_reducible assumption) | assumption)
           have hx16 := bt_at a1 x11_1
           replace p16 := eq_true p16
           replace q16 := eq_true q16
           refine start_ (n := 19) (S := fun w' => True) (ds := []) #[false,false,false,false,false,false,false,false,false,false,false,false,false,false,false,false,false,false,false] (by kernel_rfl) rfl rfl trivial (fun hHeld => ?_); refine with_tabW emendateref06_Diff.tab8 emendateref06_Diff.bits8 (fun HT_ HW_ => ?_)
           generalize wc.drew = w17 at HO_5 HO_7 BK149 HB hHeld ⊢
           refine pure_ (i := 0) (N := some 29) (v := ?_) (a' := ?_) #[true,false,false,false,false,false,false,false,false,false,false,false,false,false,false,false,false,false,false] rfl rfl (any_of HT_.out (by kernel_rfl)) (fun _ _ _ h => h) (Or.inl ⟨by rfl, ?_⟩) ?_ ?_; rotate_left; · (intro w'; go_simp; with_reducible rfl)
           rotate_left; · (simp only [Act.put, sq0_, sq1_, sq2_, i64_w, i32_w]; rfl)
           refine pure_ (i := 1) (N := some 30) (v := ?_) (a' := ?_) #[true,true,false,false,false,false,false,false,false,false,false,false,false,false,false,false,false,false,false] rfl rfl (any_of HT_.out (by kernel_rfl)) (fun _ _ _ h => h) (Or.inl ⟨by rfl, ?_⟩) ?_ ?_; rotate_left; · (intro w'; go_simp; with_reducible rfl)
           rotate_left; · (simp only [Act.put, sq0_, sq1_, sq2_, i64_w, i32_w]; rfl)
           refine pure_ (i := 2) (N := some 31) (v := ?_) (a' := ?_) #[true,true,true,false,false,false,false,false,false,false,false,false,false,false,false,false,false,false,false] rfl rfl (any_of HT_.out (by kernel_rfl)) (fun _ _ _ h => h) (Or.inl ⟨by rfl, ?_⟩) ?_ ?_; rotate_left; · (intro w'; go_simp; with_reducible rfl)
           rotate_left; · (simp only [Act.put, sq0_, sq1_, sq2_, i64_w, i32_w]; rfl)
           refine pure_ (i := 3) (N := some 32) (v := ?_) (a' := ?_) #[true,true,true,true,false,false,false,false,false,false,false,false,false,false,false,false,false,false,false] rfl rfl (any_of HT_.out (by kernel_rfl)) (fun _ _ _ h => h) (Or.inl ⟨by rfl, ?_⟩) ?_ ?_; rotate_left; · (intro w'; go_simp; with_reducible rfl)
           rotate_left; · (simp only [Act.put, sq0_, sq1_, sq2_, i64_w, i32_w]; rfl)
           refine pure_ (i := 4) (N := some 33) (v := ?_) (a' := ?_) #[true,true,true,true,true,false,false,false,false,false,false,false,false,false,false,false,false,false,false] rfl rfl (any_of HT_.out (by kernel_rfl)) (fun _ _ _ h => h) (Or.inl ⟨by rfl, ?_⟩) ?_ ?_; rotate_left; · (intro w'; go_simp; with_reducible rfl)
           rotate_left; · (simp only [Act.put, sq0_, sq1_, sq2_, i64_w, i32_w]; rfl)
           refine pure_ (i := 5) (N := some 34) (v := ?_) (a' := ?_) #[true,true,true,true,true,true,false,false,false,false,false,false,false,false,false,false,false,false,false] rfl rfl (any_of HT_.out (by kernel_rfl)) (fun _ _ _ h => h) (Or.inl ⟨by rfl, ?_⟩) ?_ ?_; rotate_left; · (intro w'; go_simp; with_reducible rfl)
           rotate_left; · (simp only [Act.put, sq0_, sq1_, sq2_, i64_w, i32_w]; rfl)
           refine pure_ (i := 6) (N := some 35) (v := ?_) (a' := ?_) #[true,true,true,true,true,true,true,false,false,false,false,false,false,false,false,false,false,false,false] rfl rfl (any_of HT_.out (by kernel_rfl)) (fun _ _ _ h => h) (Or.inl ⟨by rfl, ?_⟩) ?_ ?_; rotate_left; · (intro w'; go_simp; with_reducible rfl)
           rotate_left; · (simp only [Act.put, sq0_, sq1_, sq2_, i64_w, i32_w]; rfl)
           refine pure_ (i := 7) (N := some 36) (v := ?_) (a' := ?_) #[true,true,true,true,true,true,true,true,false,false,false,false,false,false,false,false,false,false,false] rfl rfl (any_of HT_.out (by kernel_rfl)) (fun _ _ _ h => h) (Or.inl ⟨by rfl, ?_⟩) ?_ ?_; rotate_left; · (intro w'; go_simp; with_reducible rfl)
           rotate_left; · (simp only [Act.put, sq0_, sq1_, sq2_, i64_w, i32_w]; rfl)
           refine pure_ (i := 8) (N := some 37) (v := ?_) (a' := ?_) #[true,true,true,true,true,true,true,true,true,false,false,false,false,false,false,false,false,false,false] rfl rfl (any_of HT_.out (by kernel_rfl)) (fun _ _ _ h => h) (Or.inl ⟨by rfl, ?_⟩) ?_ ?_; rotate_left; · (intro w'; go_simp; with_reducible rfl)
           rotate_left; · (simp only [Act.put, sq0_, sq1_, sq2_, i64_w, i32_w]; rfl)
           refine pure_ (i := 9) (N := some 38) (v := ?_) (a' := ?_) #[true,true,true,true,true,true,true,true,true,true,false,false,false,false,false,false,false,false,false] rfl rfl (any_of HT_.out (by kernel_rfl)) (fun _ _ _ h => h) (Or.inl ⟨by rfl, ?_⟩) ?_ ?_; rotate_left; · (intro w'; go_simp; with_reducible rfl)
           rotate_left; · (simp only [Act.put, sq0_, sq1_, sq2_, i64_w, i32_w]; rfl)
           refine pure_ (i := 10) (N := some 39) (v := ?_) (a' := ?_) #[true,true,true,true,true,true,true,true,true,true,true,false,false,false,false,false,false,false,false] rfl rfl (any_of HT_.out (by kernel_rfl)) (fun _ _ _ h => h) (Or.inl ⟨by rfl, ?_⟩) ?_ ?_; rotate_left; · (intro w'; go_simp; with_reducible rfl)
           rotate_left; · (simp only [Act.put, sq0_, sq1_, sq2_, i64_w, i32_w]; rfl)
           refine pure_ (i := 11) (N := some 40) (v := ?_) (a' := ?_) #[true,true,true,true,true,true,true,true,true,true,true,true,false,false,false,false,false,false,false] rfl rfl (any_of HT_.out (by kernel_rfl)) (fun _ _ _ h => h) (Or.inl ⟨by rfl, ?_⟩) ?_ ?_; rotate_left; · (intro w'; go_simp; with_reducible rfl)
           rotate_left; · (simp only [Act.put, sq0_, sq1_, sq2_, i64_w, i32_w]; rfl)
           refine pure_ (i := 12) (N := some 41) (v := ?_) (a' := ?_) #[true,true,true,true,true,true,true,true,true,true,true,true,true,false,false,false,false,false,false] rfl rfl (any_of HT_.out (by kernel_rfl)) (fun _ _ _ h => h) (Or.inl ⟨by rfl, ?_⟩) ?_ ?_; rotate_left; · (intro w'; go_simp; with_reducible rfl)
           rotate_left; · (simp only [Act.put, sq0_, sq1_, sq2_, i64_w, i32_w]; rfl)
           refine pure_ (i := 14) (N := some 43) (v := ?_) (a' := ?_) #[true,true,true,true,true,true,true,true,true,true,true,true,true,false,true,false,false,false,false] rfl rfl (any_of HT_.out (by kernel_rfl)) (fun _ _ _ h => h) (Or.inl ⟨by rfl, ?_⟩) ?_ ?_; rotate_left; · (intro w'; go_simp; with_reducible rfl)
           rotate_left; · (simp only [Act.put, sq0_, sq1_, sq2_, i64_w, i32_w]; rfl)
           refine pure_ (i := 15) (N := some 44) (v := ?_) (a' := ?_) #[true,true,true,true,true,true,true,true,true,true,true,true,true,false,true,true,false,false,false] rfl rfl (any_of HT_.out (by kernel_rfl)) (fun _ _ _ h => h) (Or.inl ⟨by rfl, ?_⟩) ?_ ?_; rotate_left; · (intro w'; go_simp; with_reducible rfl)
           rotate_left; · (simp only [Act.put, sq0_, sq1_, sq2_, i64_w, i32_w]; rfl)
           refine take_ (i := 13) (N := some 42) (v := ?_) (a' := ?_) #[true,true,true,true,true,true,true,true,true,true,true,true,true,true,true,true,false,false,false] rfl rfl (take_ofW HT_.out HW_.out (by kernel_rfl)) (fun _ _ _ h => h) (Or.inl ⟨by rfl, ?_⟩) hHeld ?_ ?_
           rotate_left
           ·
            intro w' _
            go_simp
            with_reducible rfl
           rotate_left
           ·
            simp only [Act.put, sq0_, sq1_, sq2_, i64_w, i32_w]
            rfl
           refine take_ (i := 16) (N := some 45) (v := ?_) (a' := ?_) #[true,true,true,true,true,true,true,true,true,true,true,true,true,true,true,true,true,false,false] rfl rfl (take_ofW HT_.out HW_.out (by kernel_rfl)) (fun _ _ _ h => h) (Or.inl ⟨by rfl, ?_⟩) hHeld ?_ ?_
           rotate_left
           ·
            intro w' _
            go_simp
            with_reducible rfl
           rotate_left
           ·
            simp only [Act.put, sq0_, sq1_, sq2_, i64_w, i32_w]
            rfl
           refine pure_ (i := 17) (N := some 46) (v := ?_) (a' := ?_) #[true,true,true,true,true,true,true,true,true,true,true,true,true,true,true,true,true,true,false] rfl rfl (any_of HT_.out (by kernel_rfl)) (fun _ _ _ h => h) (Or.inl ⟨by rfl, ?_⟩) ?_ ?_; rotate_left; · (intro w'; go_simp; with_reducible rfl)
           rotate_left; · (simp only [Act.put, sq0_, sq1_, sq2_, i64_w, i32_w]; rfl)
           refine pure_ (i := 18) (N := some 47) (v := ?_) (a' := ?_) #[true,true,true,true,true,true,true,true,true,true,true,true,true,true,true,true,true,true,true] rfl rfl (any_of HT_.out (by kernel_rfl)) (fun _ _ _ h => h) (Or.inl ⟨by rfl, ?_⟩) ?_ ?_; rotate_left; · (intro w'; go_simp; with_reducible rfl)
           rotate_left; · (simp only [Act.put, sq0_, sq1_, sq2_, i64_w, i32_w]; rfl)
           refine done_ (done_of HT_.out (by kernel_rfl)) ?_
           try go_wp2
           go_meet
           case rel => exact ⟨_, (((bt a0 x10_1) == (bt a1 x11_1))), (by first | rfl | (simp; done) | (simp [*]; done)), H', ⟨by have := HK1.out; have := HJ6.out; first | omega | exact Nat.le_refl _⟩, ⟨by (with_reducible repeat (first | apply Kd.R_alloc | apply Kd.R_drewN | apply Kd.R_drew)); exact HO_5.out⟩, ⟨by (with_reducible repeat (first | apply Kd.R_alloc | apply Kd.R_drewN | apply Kd.R_drew)); exact HO_7.out⟩, ⟨by (with_reducible repeat (first | refine blk_drewN ?_ _ | refine blk_drew ?_ | refine blk_alloc ?_ _)); exact BK149.out⟩, ⟨by repeat (first | (with_reducible first | exact HB.out | apply below_alloc | apply pw_below_drewN | apply below_drew1 | refine below_set ?_ GE149.out) | exact HB.out)⟩⟩
          ·
           rw [if_neg c15] at H
           exact absurd H (by simp)
         ·
          rw [if_neg c13] at H
          exact absurd H (by simp)
        ·
         rw [if_neg c12] at H
         have c12b0 : decide (x11_1 < (a1.size : Int)) = false := decide_eq_false c12
         clear c12
         have H' := Aside0.mk H
         clear H
         try go_wp2
         have n0_ := Aside0.mk (Kd.R_drew HO_5.out)
         have n1_ := Aside0.mk (Kd.R_drew HO_7.out)
         have n2_ := Aside0.mk (blk_drew BK149.out)
         have n3_ := Aside0.mk (below_drew1 HB.out)
         clear HO_5
         clear HO_7
         clear BK149
         clear HB
         have HO_5 := n0_
         have HO_7 := n1_
         have BK149 := n2_
         have HB := n3_
         clear n0_ n1_ n2_ n3_
         refine start_ (n := 19) (S := fun w' => True) (ds := []) #[false,false,false,false,false,false,false,false,false,false,false,false,false,false,false,false,false,false,false] (by kernel_rfl) rfl rfl trivial (fun hHeld => ?_); refine with_tabW emendateref06_Diff.tab8 emendateref06_Diff.bits8 (fun HT_ HW_ => ?_)
         generalize wc.drew = w18 at HO_5 HO_7 BK149 HB hHeld ⊢
         refine pure_ (i := 0) (N := some 29) (v := ?_) (a' := ?_) #[true,false,false,false,false,false,false,false,false,false,false,false,false,false,false,false,false,false,false] rfl rfl (any_of HT_.out (by kernel_rfl)) (fun _ _ _ h => h) (Or.inl ⟨by rfl, ?_⟩) ?_ ?_; rotate_left; · (intro w'; go_simp; with_reducible rfl)
         rotate_left; · (simp only [Act.put, sq0_, sq1_, sq2_, i64_w, i32_w]; rfl)
         refine pure_ (i := 1) (N := some 30) (v := ?_) (a' := ?_) #[true,true,false,false,false,false,false,false,false,false,false,false,false,false,false,false,false,false,false] rfl rfl (any_of HT_.out (by kernel_rfl)) (fun _ _ _ h => h) (Or.inl ⟨by rfl, ?_⟩) ?_ ?_; rotate_left; · (intro w'; go_simp; with_reducible rfl)
         rotate_left; · (simp only [Act.put, sq0_, sq1_, sq2_, i64_w, i32_w]; rfl)
         refine pure_ (i := 2) (N := some 31) (v := ?_) (a' := ?_) #[true,true,true,false,false,false,false,false,false,false,false,false,false,false,false,false,false,false,false] rfl rfl (any_of HT_.out (by kernel_rfl)) (fun _ _ _ h => h) (Or.inl ⟨by rfl, ?_⟩) ?_ ?_; rotate_left; · (intro w'; go_simp; with_reducible rfl)
         rotate_left; · (simp only [Act.put, sq0_, sq1_, sq2_, i64_w, i32_w]; rfl)
         refine pure_ (i := 3) (N := some 32) (v := ?_) (a' := ?_) #[true,true,true,true,false,false,false,false,false,false,false,false,false,false,false,false,false,false,false] rfl rfl (any_of HT_.out (by kernel_rfl)) (fun _ _ _ h => h) (Or.inl ⟨by rfl, ?_⟩) ?_ ?_; rotate_left; · (intro w'; go_simp; with_reducible rfl)
         rotate_left; · (simp only [Act.put, sq0_, sq1_, sq2_, i64_w, i32_w]; rfl)
         refine pure_ (i := 4) (N := some 33) (v := ?_) (a' := ?_) #[true,true,true,true,true,false,false,false,false,false,false,false,false,false,false,false,false,false,false] rfl rfl (any_of HT_.out (by kernel_rfl)) (fun _ _ _ h => h) (Or.inl ⟨by rfl, ?_⟩) ?_ ?_; rotate_left; · (intro w'; go_simp; with_reducible rfl)
         rotate_left; · (simp only [Act.put, sq0_, sq1_, sq2_, i64_w, i32_w]; rfl)
         refine pure_ (i := 5) (N := some 34) (v := ?_) (a' := ?_) #[true,true,true,true,true,true,false,false,false,false,false,false,false,false,false,false,false,false,false] rfl rfl (any_of HT_.out (by kernel_rfl)) (fun _ _ _ h => h) (Or.inl ⟨by rfl, ?_⟩) ?_ ?_; rotate_left; · (intro w'; go_simp; with_reducible rfl)
         rotate_left; · (simp only [Act.put, sq0_, sq1_, sq2_, i64_w, i32_w]; rfl)
         refine pure_ (i := 6) (N := some 35) (v := ?_) (a' := ?_) #[true,true,true,true,true,true,true,false,false,false,false,false,false,false,false,false,false,false,false] rfl rfl (any_of HT_.out (by kernel_rfl)) (fun _ _ _ h => h) (Or.inl ⟨by rfl, ?_⟩) ?_ ?_; rotate_left; · (intro w'; go_simp; with_reducible rfl)
         rotate_left; · (simp only [Act.put, sq0_, sq1_, sq2_, i64_w, i32_w]; rfl)
         refine pure_ (i := 7) (N := some 36) (v := ?_) (a' := ?_) #[true,true,true,true,true,true,true,true,false,false,false,false,false,false,false,false,false,false,false] rfl rfl (any_of HT_.out (by kernel_rfl)) (fun _ _ _ h => h) (Or.inl ⟨by rfl, ?_⟩) ?_ ?_; rotate_left; · (intro w'; go_simp; with_reducible rfl)
         rotate_left; · (simp only [Act.put, sq0_, sq1_, sq2_, i64_w, i32_w]; rfl)
         refine pure_ (i := 8) (N := some 37) (v := ?_) (a' := ?_) #[true,true,true,true,true,true,true,true,true,false,false,false,false,false,false,false,false,false,false] rfl rfl (any_of HT_.out (by kernel_rfl)) (fun _ _ _ h => h) (Or.inl ⟨by rfl, ?_⟩) ?_ ?_; rotate_left; · (intro w'; go_simp; with_reducible rfl)
         rotate_left; · (simp only [Act.put, sq0_, sq1_, sq2_, i64_w, i32_w]; rfl)
         refine pure_ (i := 9) (N := some 38) (v := ?_) (a' := ?_) #[true,true,true,true,true,true,true,true,true,true,false,false,false,false,false,false,false,false,false] rfl rfl (any_of HT_.out (by kernel_rfl)) (fun _ _ _ h => h) (Or.inl ⟨by rfl, ?_⟩) ?_ ?_; rotate_left; · (intro w'; go_simp; with_reducible rfl)
         rotate_left; · (simp only [Act.put, sq0_, sq1_, sq2_, i64_w, i32_w]; rfl)
         refine pure_ (i := 10) (N := some 39) (v := ?_) (a' := ?_) #[true,true,true,true,true,true,true,true,true,true,true,false,false,false,false,false,false,false,false] rfl rfl (any_of HT_.out (by kernel_rfl)) (fun _ _ _ h => h) (Or.inl ⟨by rfl, ?_⟩) ?_ ?_; rotate_left; · (intro w'; go_simp; with_reducible rfl)
         rotate_left; · (simp only [Act.put, sq0_, sq1_, sq2_, i64_w, i32_w]; rfl)
         refine pure_ (i := 11) (N := some 40) (v := undef) (a' := ?_) #[true,true,true,true,true,true,true,true,true,true,true,true,false,false,false,false,false,false,false] rfl rfl (any_of HT_.out (by kernel_rfl)) (fun _ _ _ h => h) (Or.inr ⟨by rfl, rfl⟩) ?_ ?_
         rotate_left
         ·
          simp only [Act.put, sq0_, sq1_, sq2_, i64_w, i32_w]
          rfl
         refine pure_ (i := 12) (N := some 41) (v := undef) (a' := ?_) #[true,true,true,true,true,true,true,true,true,true,true,true,true,false,false,false,false,false,false] rfl rfl (any_of HT_.out (by kernel_rfl)) (fun _ _ _ h => h) (Or.inr ⟨by rfl, rfl⟩) ?_ ?_
         rotate_left
         ·
          simp only [Act.put, sq0_, sq1_, sq2_, i64_w, i32_w]
          rfl
         refine pure_ (i := 13) (N := some 42) (v := undef) (a' := ?_) #[true,true,true,true,true,true,true,true,true,true,true,true,true,true,false,false,false,false,false] rfl rfl (any_of HT_.out (by kernel_rfl)) (fun _ _ _ h => h) (Or.inr ⟨by rfl, rfl⟩) ?_ ?_
         rotate_left
         ·
          simp only [Act.put, sq0_, sq1_, sq2_, i64_w, i32_w]
          rfl
         refine pure_ (i := 14) (N := some 43) (v := undef) (a' := ?_) #[true,true,true,true,true,true,true,true,true,true,true,true,true,true,true,false,false,false,false] rfl rfl (any_of HT_.out (by kernel_rfl)) (fun _ _ _ h => h) (Or.inr ⟨by rfl, rfl⟩) ?_ ?_
         rotate_left
         ·
          simp only [Act.put, sq0_, sq1_, sq2_, i64_w, i32_w]
          rfl
         refine pure_ (i := 15) (N := some 44) (v := undef) (a' := ?_) #[true,true,true,true,true,true,true,true,true,true,true,true,true,true,true,true,false,false,false] rfl rfl (any_of HT_.out (by kernel_rfl)) (fun _ _ _ h => h) (Or.inr ⟨by rfl, rfl⟩) ?_ ?_
         rotate_left
         ·
          simp only [Act.put, sq0_, sq1_, sq2_, i64_w, i32_w]
          rfl
         refine pure_ (i := 16) (N := some 45) (v := undef) (a' := ?_) #[true,true,true,true,true,true,true,true,true,true,true,true,true,true,true,true,true,false,false] rfl rfl (any_of HT_.out (by kernel_rfl)) (fun _ _ _ h => h) (Or.inr ⟨by rfl, rfl⟩) ?_ ?_
         rotate_left
         ·
          simp only [Act.put, sq0_, sq1_, sq2_, i64_w, i32_w]
          rfl
         refine pure_ (i := 17) (N := some 46) (v := undef) (a' := ?_) #[true,true,true,true,true,true,true,true,true,true,true,true,true,true,true,true,true,true,false] rfl rfl (any_of HT_.out (by kernel_rfl)) (fun _ _ _ h => h) (Or.inr ⟨by rfl, rfl⟩) ?_ ?_
         rotate_left
         ·
          simp only [Act.put, sq0_, sq1_, sq2_, i64_w, i32_w]
          rfl
         refine pure_ (i := 18) (N := some 47) (v := ?_) (a' := ?_) #[true,true,true,true,true,true,true,true,true,true,true,true,true,true,true,true,true,true,true] rfl rfl (any_of HT_.out (by kernel_rfl)) (fun _ _ _ h => h) (Or.inl ⟨by rfl, ?_⟩) ?_ ?_; rotate_left; · (intro w'; go_simp; with_reducible rfl)
         rotate_left; · (simp only [Act.put, sq0_, sq1_, sq2_, i64_w, i32_w]; rfl)
         refine done_ (done_of HT_.out (by kernel_rfl)) ?_
         try go_wp2
         go_meet
         case rel => exact ⟨_, (false), (by first | rfl | (simp; done) | (simp [*]; done)), H', ⟨by have := HK1.out; have := HJ6.out; first | omega | exact Nat.le_refl _⟩, ⟨by (with_reducible repeat (first | apply Kd.R_alloc | apply Kd.R_drewN | apply Kd.R_drew)); exact HO_5.out⟩, ⟨by (with_reducible repeat (first | apply Kd.R_alloc | apply Kd.R_drewN | apply Kd.R_drew)); exact HO_7.out⟩, ⟨by (with_reducible repeat (first | refine blk_drewN ?_ _ | refine blk_drew ?_ | refine blk_alloc ?_ _)); exact BK149.out⟩, ⟨by repeat (first | (with_reducible first | exact HB.out | apply below_alloc | apply pw_below_drewN | apply below_drew1 | refine below_set ?_ GE149.out) | exact HB.out)⟩⟩
       ·
        rw [if_neg c11] at H
        have c11b0 : decide (x10_1 < (a0.size : Int)) = false := decide_eq_false c11
        clear c11
        (first | rw [c11b0] | (simp only [i64_w, i32_w]; rw [c11b0]) | skip)
        have H' := Aside0.mk H
        clear H
        try go_wp2
        have n0_ := Aside0.mk (Kd.R_drew HO_5.out)
        have n1_ := Aside0.mk (Kd.R_drew HO_7.out)
        have n2_ := Aside0.mk (blk_drew BK149.out)
        have n3_ := Aside0.mk (below_drew1 HB.out)
        clear HO_5
        clear HO_7
        clear BK149
        clear HB
        have HO_5 := n0_
        have HO_7 := n1_
        have BK149 := n2_
        have HB := n3_
        clear n0_ n1_ n2_ n3_
        refine start_ (n := 19) (S := fun w' => True) (ds := []) #[false,false,false,false,false,false,false,false,false,false,false,false,false,false,false,false,false,false,false] (by kernel_rfl) rfl rfl trivial (fun hHeld => ?_); refine with_tabW emendateref06_Diff.tab8 emendateref06_Diff.bits8 (fun HT_ HW_ => ?_)
        generalize wc.drew = w19 at HO_5 HO_7 BK149 HB hHeld ⊢
        refine pure_ (i := 0) (N := some 29) (v := ?_) (a' := ?_) #[true,false,false,false,false,false,false,false,false,false,false,false,false,false,false,false,false,false,false] rfl rfl (any_of HT_.out (by kernel_rfl)) (fun _ _ _ h => h) (Or.inl ⟨by rfl, ?_⟩) ?_ ?_; rotate_left; · (intro w'; go_simp; with_reducible rfl)
        rotate_left; · (simp only [Act.put, sq0_, sq1_, sq2_, i64_w, i32_w]; rfl)
        refine pure_ (i := 1) (N := some 30) (v := ?_) (a' := ?_) #[true,true,false,false,false,false,false,false,false,false,false,false,false,false,false,false,false,false,false] rfl rfl (any_of HT_.out (by kernel_rfl)) (fun _ _ _ h => h) (Or.inl ⟨by rfl, ?_⟩) ?_ ?_; rotate_left; · (intro w'; go_simp; with_reducible rfl)
        rotate_left; · (simp only [Act.put, sq0_, sq1_, sq2_, i64_w, i32_w]; rfl)
        refine pure_ (i := 2) (N := some 31) (v := ?_) (a' := ?_) #[true,true,true,false,false,false,false,false,false,false,false,false,false,false,false,false,false,false,false] rfl rfl (any_of HT_.out (by kernel_rfl)) (fun _ _ _ h => h) (Or.inl ⟨by rfl, ?_⟩) ?_ ?_; rotate_left; · (intro w'; go_simp; with_reducible rfl)
        rotate_left; · (simp only [Act.put, sq0_, sq1_, sq2_, i64_w, i32_w]; rfl)
        refine pure_ (i := 3) (N := some 32) (v := ?_) (a' := ?_) #[true,true,true,true,false,false,false,false,false,false,false,false,false,false,false,false,false,false,false] rfl rfl (any_of HT_.out (by kernel_rfl)) (fun _ _ _ h => h) (Or.inl ⟨by rfl, ?_⟩) ?_ ?_; rotate_left; · (intro w'; go_simp; with_reducible rfl)
        rotate_left; · (simp only [Act.put, sq0_, sq1_, sq2_, i64_w, i32_w]; rfl)
        refine pure_ (i := 4) (N := some 33) (v := ?_) (a' := ?_) #[true,true,true,true,true,false,false,false,false,false,false,false,false,false,false,false,false,false,false] rfl rfl (any_of HT_.out (by kernel_rfl)) (fun _ _ _ h => h) (Or.inl ⟨by rfl, ?_⟩) ?_ ?_; rotate_left; · (intro w'; go_simp; with_reducible rfl)
        rotate_left; · (simp only [Act.put, sq0_, sq1_, sq2_, i64_w, i32_w]; rfl)
        refine pure_ (i := 5) (N := some 34) (v := undef) (a' := ?_) #[true,true,true,true,true,true,false,false,false,false,false,false,false,false,false,false,false,false,false] rfl rfl (any_of HT_.out (by kernel_rfl)) (fun _ _ _ h => h) (Or.inr ⟨by rfl, rfl⟩) ?_ ?_
        rotate_left
        ·
         simp only [Act.put, sq0_, sq1_, sq2_, i64_w, i32_w]
         rfl
        refine pure_ (i := 6) (N := some 35) (v := undef) (a' := ?_) #[true,true,true,true,true,true,true,false,false,false,false,false,false,false,false,false,false,false,false] rfl rfl (any_of HT_.out (by kernel_rfl)) (fun _ _ _ h => h) (Or.inr ⟨by rfl, rfl⟩) ?_ ?_
        rotate_left
        ·
         simp only [Act.put, sq0_, sq1_, sq2_, i64_w, i32_w]
         rfl
        refine pure_ (i := 7) (N := some 36) (v := undef) (a' := ?_) #[true,true,true,true,true,true,true,true,false,false,false,false,false,false,false,false,false,false,false] rfl rfl (any_of HT_.out (by kernel_rfl)) (fun _ _ _ h => h) (Or.inr ⟨by rfl, rfl⟩) ?_ ?_
        rotate_left
        ·
         simp only [Act.put, sq0_, sq1_, sq2_, i64_w, i32_w]
         rfl
        refine pure_ (i := 8) (N := some 37) (v := undef) (a' := ?_) #[true,true,true,true,true,true,true,true,true,false,false,false,false,false,false,false,false,false,false] rfl rfl (any_of HT_.out (by kernel_rfl)) (fun _ _ _ h => h) (Or.inr ⟨by rfl, rfl⟩) ?_ ?_
        rotate_left
        ·
         simp only [Act.put, sq0_, sq1_, sq2_, i64_w, i32_w]
         rfl
        refine pure_ (i := 9) (N := some 38) (v := ?_) (a' := ?_) #[true,true,true,true,true,true,true,true,true,true,false,false,false,false,false,false,false,false,false] rfl rfl (any_of HT_.out (by kernel_rfl)) (fun _ _ _ h => h) (Or.inl ⟨by rfl, ?_⟩) ?_ ?_; rotate_left; · (intro w'; go_simp; with_reducible rfl)
        rotate_left; · (simp only [Act.put, sq0_, sq1_, sq2_, i64_w, i32_w]; rfl)
        refine pure_ (i := 10) (N := some 39) (v := ?_) (a' := ?_) #[true,true,true,true,true,true,true,true,true,true,true,false,false,false,false,false,false,false,false] rfl rfl (any_of HT_.out (by kernel_rfl)) (fun _ _ _ h => h) (Or.inl ⟨by rfl, ?_⟩) ?_ ?_; rotate_left; · (intro w'; go_simp; with_reducible rfl)
        rotate_left; · (simp only [Act.put, sq0_, sq1_, sq2_, i64_w, i32_w]; rfl)
        refine pure_ (i := 11) (N := some 40) (v := undef) (a' := ?_) #[true,true,true,true,true,true,true,true,true,true,true,true,false,false,false,false,false,false,false] rfl rfl (any_of HT_.out (by kernel_rfl)) (fun _ _ _ h => h) (Or.inr ⟨by rfl, rfl⟩) ?_ ?_
        rotate_left
        ·
         simp only [Act.put, sq0_, sq1_, sq2_, i64_w, i32_w]
         rfl
        refine pure_ (i := 12) (N := some 41) (v := undef) (a' := ?_) #[true,true,true,true,true,true,true,true,true,true,true,true,true,false,false,false,false,false,false] rfl rfl (any_of HT_.out (by kernel_rfl)) (fun _ _ _ h => h) (Or.inr ⟨by rfl, rfl⟩) ?_ ?_
        rotate_left
        ·
         simp only [Act.put, sq0_, sq1_, sq2_, i64_w, i32_w]
         rfl
        refine pure_ (i := 13) (N := some 42) (v := undef) (a' := ?_) #[true,true,true,true,true,true,true,true,true,true,true,true,true,true,false,false,false,false,false] rfl rfl (any_of HT_.out (by kernel_rfl)) (fun _ _ _ h => h) (Or.inr ⟨by rfl, rfl⟩) ?_ ?_
        rotate_left
        ·
         simp only [Act.put, sq0_, sq1_, sq2_, i64_w, i32_w]
         rfl
        refine pure_ (i := 14) (N := some 43) (v := undef) (a' := ?_) #[true,true,true,true,true,true,true,true,true,true,true,true,true,true,true,false,false,false,false] rfl rfl (any_of HT_.out (by kernel_rfl)) (fun _ _ _ h => h) (Or.inr ⟨by rfl, rfl⟩) ?_ ?_
        rotate_left
        ·
         simp only [Act.put, sq0_, sq1_, sq2_, i64_w, i32_w]
         rfl
        refine pure_ (i := 15) (N := some 44) (v := undef) (a' := ?_) #[true,true,true,true,true,true,true,true,true,true,true,true,true,true,true,true,false,false,false] rfl rfl (any_of HT_.out (by kernel_rfl)) (fun _ _ _ h => h) (Or.inr ⟨by rfl, rfl⟩) ?_ ?_
        rotate_left
        ·
         simp only [Act.put, sq0_, sq1_, sq2_, i64_w, i32_w]
         rfl
        refine pure_ (i := 16) (N := some 45) (v := undef) (a' := ?_) #[true,true,true,true,true,true,true,true,true,true,true,true,true,true,true,true,true,false,false] rfl rfl (any_of HT_.out (by kernel_rfl)) (fun _ _ _ h => h) (Or.inr ⟨by rfl, rfl⟩) ?_ ?_
        rotate_left
        ·
         simp only [Act.put, sq0_, sq1_, sq2_, i64_w, i32_w]
         rfl
        refine pure_ (i := 17) (N := some 46) (v := undef) (a' := ?_) #[true,true,true,true,true,true,true,true,true,true,true,true,true,true,true,true,true,true,false] rfl rfl (any_of HT_.out (by kernel_rfl)) (fun _ _ _ h => h) (Or.inr ⟨by rfl, rfl⟩) ?_ ?_
        rotate_left
        ·
         simp only [Act.put, sq0_, sq1_, sq2_, i64_w, i32_w]
         rfl
        refine pure_ (i := 18) (N := some 47) (v := ?_) (a' := ?_) #[true,true,true,true,true,true,true,true,true,true,true,true,true,true,true,true,true,true,true] rfl rfl (any_of HT_.out (by kernel_rfl)) (fun _ _ _ h => h) (Or.inl ⟨by rfl, ?_⟩) ?_ ?_; rotate_left; · (intro w'; go_simp; with_reducible rfl)
        rotate_left; · (simp only [Act.put, sq0_, sq1_, sq2_, i64_w, i32_w]; rfl)
        refine done_ (done_of HT_.out (by kernel_rfl)) ?_
        try go_wp2
        go_meet
        case rel => exact ⟨_, (false), (by first | rfl | (simp; done) | (simp [*]; done)), H', ⟨by have := HK1.out; have := HJ6.out; first | omega | exact Nat.le_refl _⟩, ⟨by (with_reducible repeat (first | apply Kd.R_alloc | apply Kd.R_drewN | apply Kd.R_drew)); exact HO_5.out⟩, ⟨by (with_reducible repeat (first | apply Kd.R_alloc | apply Kd.R_drewN | apply Kd.R_drew)); exact HO_7.out⟩, ⟨by (with_reducible repeat (first | refine blk_drewN ?_ _ | refine blk_drew ?_ | refine blk_alloc ?_ _)); exact BK149.out⟩, ⟨by repeat (first | (with_reducible first | exact HB.out | apply below_alloc | apply pw_below_drewN | apply below_drew1 | refine below_set ?_ GE149.out) | exact HB.out)⟩⟩
      case rest =>
       clear HC10
       try clear c1
       try clear p1
       try clear q1
       try clear hx1
       try clear c2
       try clear p2
       try clear p6
       try clear c8
       try clear c8b0
       try clear c9
       try clear c11
       try clear c11b0
       try clear c12
       try clear c12b0
       try clear c13
       try clear c13b0
       try clear p14
       try clear q14
       try clear hx14
       try clear c15
       try clear c15b0
       try clear c16
       try clear p16
       try clear q16
       try clear hx16
       try clear hcz6_0
       try clear hcz6_1
       try clear hcz6_2
       try clear hfz6_0
       try clear hfz6_1
       try clear hfz6_2
       try clear p14
       try clear p16
       try clear p2
       try clear p6
       try clear q14
       try clear q16
       obtain ⟨kq, x47_9, rfl, HA, HJ9, HO_5, HO_7, BK149, HB⟩ := hcut
       cases kq with
       | zero => exact absurd HA.out (by simp [emendateref06_Diff.j2])
       | succ kj9 =>
        have H := HA.out
        clear HA
        simp only [emendateref06_Diff.j2] at H
        by_cases c20 : x47_9 = true
        ·
         subst c20
         have H1 : (if x9_1 = true then (if x7_1.length < 4398046511104 then (emendateref06_Diff.l0 kj9 a0 a1 t146 (wrap64 ((a1.size : Int) + 1)) (x7_1 ++ [(⟨x150000_1, x150001_1, x150002_1⟩ : S30)]) false (wrap64 (x10_1 + 1)) (wrap64 (x11_1 + 1)) x150000_1 x150001_1 x150002_1) else (none)) else (emendateref06_Diff.l0 kj9 a0 a1 t146 (wrap64 ((a1.size : Int) + 1)) x7_1 x9_1 (wrap64 (x10_1 + 1)) (wrap64 (x11_1 + 1)) x150000_1 x150001_1 x150002_1)) = some r := by rw [if_pos rfl] at H; exact H
         clear H
         have H := H1
         clear H1
         by_cases c21 : x9_1 = true
         ·
          subst c21
          have H1 : (if x7_1.length < 4398046511104 then (emendateref06_Diff.l0 kj9 a0 a1 t146 (wrap64 ((a1.size : Int) + 1)) (x7_1 ++ [(⟨x150000_1, x150001_1, x150002_1⟩ : S30)]) false (wrap64 (x10_1 + 1)) (wrap64 (x11_1 + 1)) x150000_1 x150001_1 x150002_1) else (none)) = some r := by rw [if_pos rfl] at H; exact H
          clear H
          have H := H1
          clear H1
          by_cases c22 : x7_1.length < 4398046511104
          ·
           rw [if_pos c22] at H
           have LMc22 := Aside0.mk c22
           clear c22
           obtain ⟨y153, hy153⟩ : ∃ y_ : List (S30), y_ = (x7_1 ++ [(⟨x150000_1, x150001_1, x150002_1⟩ : S30)]) := ⟨_, rfl⟩
           replace H : (emendateref06_Diff.l0 kj9 a0 a1 t146 (wrap64 ((a1.size : Int) + 1)) y153 false (wrap64 (x10_1 + 1)) (wrap64 (x11_1 + 1)) x150000_1 x150001_1 x150002_1) = some r := by first | (rw [hy153]; with_reducible exact H) | (have H2_ := (Option.bind_some _ _).symm.trans H; rw [hy153]; with_reducible exact H2_) | (have H2_ := (Option.bind_some _ _).symm.trans H; with_reducible exact H2_) | with_reducible exact H | (rw [hy153]; exact H) | exact H
           have Ny153 := Aside0.mk hy153
           clear hy153
           have H' := Aside0.mk H
           clear H
           have hcz23_0 : wc.cell? ⟨gb149, 0, none⟩ = some (.int .i64 x150000_1) := (blk_cell BK149.out 0).trans rfl
           have hcz23_1 : wc.cell? ⟨gb149, 1, none⟩ = some (.int .i64 x150001_1) := (blk_cell BK149.out 1).trans rfl
           have hcz23_2 : wc.cell? ⟨gb149, 2, none⟩ = some (.string x150002_1) := (blk_cell BK149.out 2).trans rfl
           have hfz23_0 := blk_frozen BK149.out 0
           have hfz23_1 := blk_frozen BK149.out 1
           have hfz23_2 := blk_frozen BK149.out 2
           go_wp2_with (first | ((with_reducible refine gate_builtin (b := .append) (xs := #[.tmp 49, .tmp 51]) rfl ?_); (try (refine gate_guard (by rfl) ?_; dsimp only)); at_builtin; refine Kd.R_append k30 (w0 := w) w.heap.size rfl (.tmp 49) (.tmp 51) 27 30 (.agg #[(.int .i64 0), (.int .i64 0), (.string ⟨#[]⟩)]) 32 rfl Try.underlying27 info30 rfl (by decide) (by omega) u7 x7_1 (⟨x150000_1, x150001_1, x150002_1⟩ : S30) [.int .i64 x150000_1, .int .i64 x150001_1, .string x150002_1] (fun k_ => k_ ≠ gb149) (fun _ => False) rfl rfl ?aP (fun _ hk => hk.elim) ?aF ?aO ?aB ?aS ?aL ?_; (case aP => exact k30_mkM _ _ _ (⟨x150000_1, x150001_1, x150002_1⟩ : S30)); (case aB => exact (by repeat (first | (with_reducible first | exact HB.out | apply below_alloc | apply pw_below_drewN | apply below_drew1 | refine below_set ?_ GE149.out) | exact HB.out))); (case aF => exact (fun k_ hk => Kd.freshB (g := gb149) (o := .cells #[.int .i64 x150000_1, .int .i64 x150001_1, .string x150002_1] 30 (0, 0)) (by (with_reducible repeat (first | refine blk_drewN ?_ _ | refine blk_drew ?_ | refine blk_alloc ?_ _)); exact BK149.out) k_ hk)); (case aO => exact (by (with_reducible repeat (first | apply Kd.R_alloc | apply Kd.R_drewN | apply Kd.R_drew)); exact HO_7.out)); (case aS => exact (below_size (by repeat (first | (with_reducible first | exact HB.out | apply below_alloc | apply pw_below_drewN | apply below_drew1 | refine below_set ?_ GE149.out) | exact HB.out)))); (case aL => have := LMc22.out; omega); intro v154 w24 ho hb hg hat; rw [← Ny153.out] at ho; have n0_ := Aside0.mk (Kd.R_over' (by (with_reducible repeat (first | apply Kd.R_alloc | apply Kd.R_drewN | apply Kd.R_drew)); exact HO_5.out) (Kd.R_typed (by (with_reducible repeat (first | apply Kd.R_alloc | apply Kd.R_drewN | apply Kd.R_drew)); exact HO_7.out)) (by decide) hg); have n1_ := Aside0.mk (blk_grown (g := gb149) (o := .cells #[.int .i64 x150000_1, .int .i64 x150001_1, .string x150002_1] 30 (0, 0)) (by (with_reducible repeat (first | refine blk_drewN ?_ _ | refine blk_drew ?_ | refine blk_alloc ?_ _)); exact BK149.out) hg (Kd.R_away HO_7.out (fun _ hk => hk))); have n2_ := Aside0.mk (hb); have n3_ := Aside0.mk (ho); clear HO_5; clear BK149; clear HB; clear HO_7; have HO_5 := n0_; have BK149 := n1_; have HB := n2_; have HO155 := n3_; clear n0_ n1_ n2_ n3_; clear ho hb hg hat))
           go_roundg kj9
           case measure => have := HK1.out; have := HJ6.out; have := HJ9.out; omega
           case rel => exact ⟨(y153), (false), (wrap64 (x10_1 + 1)), (wrap64 (x11_1 + 1)), (x150000_1), (x150001_1), (x150002_1), (by first | rfl | (simp; done) | (simp [*]; done)), (by first | rfl | (simp; done) | (simp [*]; done)), (by first | rfl | (simp; done) | (simp [*]; done)), H', ⟨by have := HK1.out; have := HJ6.out; have := HJ9.out; omega⟩, ⟨by (with_reducible repeat (first | apply Kd.R_alloc | apply Kd.R_drewN | apply Kd.R_drew)); exact HO_5.out⟩, ⟨by (with_reducible repeat (first | apply Kd.R_alloc | apply Kd.R_drewN | apply Kd.R_drew)); exact HO155.out⟩, ⟨by (with_reducible repeat (first | refine blk_drewN ?_ _ | refine blk_drew ?_ | refine blk_alloc ?_ _)); exact BK149.out⟩, ⟨by repeat (first | (with_reducible first | exact HB.out | apply below_alloc | apply pw_below_drewN | apply below_drew1 | refine below_set ?_ GE149.out) | exact HB.out)⟩⟩
          ·
           rw [if_neg c22] at H
           exact absurd H (by simp)
         ·
          replace c21 := Bool.eq_false_iff.mpr c21
          subst c21
          have H1 : (emendateref06_Diff.l0 kj9 a0 a1 t146 (wrap64 ((a1.size : Int) + 1)) x7_1 false (wrap64 (x10_1 + 1)) (wrap64 (x11_1 + 1)) x150000_1 x150001_1 x150002_1) = some r := by rw [if_neg (show ¬ (false = true) by decide)] at H; exact H
          clear H
          have H := H1
          clear H1
          have H' := Aside0.mk H
          clear H
          go_wp2
          go_roundg kj9
          case measure => have := HK1.out; have := HJ6.out; have := HJ9.out; omega
          case rel => exact ⟨(x7_1), (false), (wrap64 (x10_1 + 1)), (wrap64 (x11_1 + 1)), (x150000_1), (x150001_1), (x150002_1), (by first | rfl | (simp; done) | (simp [*]; done)), (by first | rfl | (simp; done) | (simp [*]; done)), (by first | rfl | (simp; done) | (simp [*]; done)), H', ⟨by have := HK1.out; have := HJ6.out; have := HJ9.out; omega⟩, ⟨by (with_reducible repeat (first | apply Kd.R_alloc | apply Kd.R_drewN | apply Kd.R_drew)); exact HO_5.out⟩, ⟨by (with_reducible repeat (first | apply Kd.R_alloc | apply Kd.R_drewN | apply Kd.R_drew)); exact HO_7.out⟩, ⟨by (with_reducible repeat (first | refine blk_drewN ?_ _ | refine blk_drew ?_ | refine blk_alloc ?_ _)); exact BK149.out⟩, ⟨by repeat (first | (with_reducible first | exact HB.out | apply below_alloc | apply pw_below_drewN | apply below_drew1 | refine below_set ?_ GE149.out) | exact HB.out)⟩⟩
        ·
         replace c20 := Bool.eq_false_iff.mpr c20
         subst c20
         have H1 : (if x9_1 = true then (if x11_1 = (a1.size : Int) then (emendateref06_Diff.l0 kj9 a0 a1 t146 (wrap64 ((a1.size : Int) + 1)) x7_1 x9_1 (wrap64 (x10_1 + 1)) x11_1 x150000_1 (wrap64 (x150001_1 + 1)) x150002_1) else (if x10_1 < (a0.size : Int) then (if 0 ≤ (wrap64 ((wrap64 ((wrap64 (x10_1 + 1)) * (wrap64 ((a1.size : Int) + 1)))) + x11_1)) then (if (wrap64 ((wrap64 ((wrap64 (x10_1 + 1)) * (wrap64 ((a1.size : Int) + 1)))) + x11_1)) < (t146.length : Int) then (if 0 ≤ (wrap64 ((wrap64 ((wrap64 (x10_1 * (wrap64 ((a1.size : Int) + 1)))) + x11_1)) + 1)) then (if (wrap64 ((wrap64 ((wrap64 (x10_1 * (wrap64 ((a1.size : Int) + 1)))) + x11_1)) + 1)) < (t146.length : Int) then (if (rd t146 (wrap64 ((wrap64 ((wrap64 (x10_1 + 1)) * (wrap64 ((a1.size : Int) + 1)))) + x11_1))) ≤ (rd t146 (wrap64 ((wrap64 ((wrap64 (x10_1 * (wrap64 ((a1.size : Int) + 1)))) + x11_1)) + 1))) then (emendateref06_Diff.l0 kj9 a0 a1 t146 (wrap64 ((a1.size : Int) + 1)) x7_1 x9_1 (wrap64 (x10_1 + 1)) x11_1 x150000_1 (wrap64 (x150001_1 + 1)) x150002_1) else (if 0 ≤ x11_1 then (if x11_1 ≤ (wrap64 (x11_1 + 1)) then (if (wrap64 (x11_1 + 1)) ≤ (a1.size : Int) then (if x150002_1.size + (a1.extract (x11_1 : Int).toNat ((wrap64 (x11_1 + 1)) : Int).toNat).size ≤ 9223372036854775807 then (emendateref06_Diff.l0 kj9 a0 a1 t146 (wrap64 ((a1.size : Int) + 1)) x7_1 x9_1 x10_1 (wrap64 (x11_1 + 1)) x150000_1 x150001_1 (x150002_1 ++ (a1.extract (x11_1 : Int).toNat ((wrap64 (x11_1 + 1)) : Int).toNat))) else (none)) else (none)) else (none)) else (none))) else (none)) else (none)) else (none)) else (none)) else (if 0 ≤ x11_1 then (if x11_1 ≤ (wrap64 (x11_1 + 1)) then (if (wrap64 (x11_1 + 1)) ≤ (a1.size : Int) then (if x150002_1.size + (a1.extract (x11_1 : Int).toNat ((wrap64 (x11_1 + 1)) : Int).toNat).size ≤ 9223372036854775807 then (emendateref06_Diff.l0 kj9 a0 a1 t146 (wrap64 ((a1.size : Int) + 1)) x7_1 x9_1 x10_1 (wrap64 (x11_1 + 1)) x150000_1 x150001_1 (x150002_1 ++ (a1.extract (x11_1 : Int).toNat ((wrap64 (x11_1 + 1)) : Int).toNat))) else (none)) else (none)) else (none)) else (none)))) else (if x11_1 = (a1.size : Int) then (emendateref06_Diff.l0 kj9 a0 a1 t146 (wrap64 ((a1.size : Int) + 1)) x7_1 true (wrap64 (x10_1 + 1)) x11_1 x10_1 1 (⟨#[]⟩ : ByteArray)) else (if x10_1 < (a0.size : Int) then (if 0 ≤ (wrap64 ((wrap64 ((wrap64 (x10_1 + 1)) * (wrap64 ((a1.size : Int) + 1)))) + x11_1)) then (if (wrap64 ((wrap64 ((wrap64 (x10_1 + 1)) * (wrap64 ((a1.size : Int) + 1)))) + x11_1)) < (t146.length : Int) then (if 0 ≤ (wrap64 ((wrap64 ((wrap64 (x10_1 * (wrap64 ((a1.size : Int) + 1)))) + x11_1)) + 1)) then (if (wrap64 ((wrap64 ((wrap64 (x10_1 * (wrap64 ((a1.size : Int) + 1)))) + x11_1)) + 1)) < (t146.length : Int) then (if (rd t146 (wrap64 ((wrap64 ((wrap64 (x10_1 + 1)) * (wrap64 ((a1.size : Int) + 1)))) + x11_1))) ≤ (rd t146 (wrap64 ((wrap64 ((wrap64 (x10_1 * (wrap64 ((a1.size : Int) + 1)))) + x11_1)) + 1))) then (emendateref06_Diff.l0 kj9 a0 a1 t146 (wrap64 ((a1.size : Int) + 1)) x7_1 true (wrap64 (x10_1 + 1)) x11_1 x10_1 1 (⟨#[]⟩ : ByteArray)) else (if 0 ≤ x11_1 then (if x11_1 ≤ (wrap64 (x11_1 + 1)) then (if (wrap64 (x11_1 + 1)) ≤ (a1.size : Int) then (if 0 + (a1.extract (x11_1 : Int).toNat ((wrap64 (x11_1 + 1)) : Int).toNat).size ≤ 9223372036854775807 then (emendateref06_Diff.l0 kj9 a0 a1 t146 (wrap64 ((a1.size : Int) + 1)) x7_1 true x10_1 (wrap64 (x11_1 + 1)) x10_1 0 ((⟨#[]⟩ : ByteArray) ++ (a1.extract (x11_1 : Int).toNat ((wrap64 (x11_1 + 1)) : Int).toNat))) else (none)) else (none)) else (none)) else (none))) else (none)) else (none)) else (none)) else (none)) else (if 0 ≤ x11_1 then (if x11_1 ≤ (wrap64 (x11_1 + 1)) then (if (wrap64 (x11_1 + 1)) ≤ (a1.size : Int) then (if 0 + (a1.extract (x11_1 : Int).toNat ((wrap64 (x11_1 + 1)) : Int).toNat).size ≤ 9223372036854775807 then (emendateref06_Diff.l0 kj9 a0 a1 t146 (wrap64 ((a1.size : Int) + 1)) x7_1 true x10_1 (wrap64 (x11_1 + 1)) x10_1 0 ((⟨#[]⟩ : ByteArray) ++ (a1.extract (x11_1 : Int).toNat ((wrap64 (x11_1 + 1)) : Int).toNat))) else (none)) else (none)) else (none)) else (none))))) = some r := by rw [if_neg (show ¬ (false = true) by decide)] at H; exact H
         clear H
         have H := H1
         clear H1
         by_cases c25 : x9_1 = true
         ·
          subst c25
          have H1 : (if x11_1 = (a1.size : Int) then (emendateref06_Diff.l0 kj9 a0 a1 t146 (wrap64 ((a1.size : Int) + 1)) x7_1 true (wrap64 (x10_1 + 1)) x11_1 x150000_1 (wrap64 (x150001_1 + 1)) x150002_1) else (if x10_1 < (a0.size : Int) then (if 0 ≤ (wrap64 ((wrap64 ((wrap64 (x10_1 + 1)) * (wrap64 ((a1.size : Int) + 1)))) + x11_1)) then (if (wrap64 ((wrap64 ((wrap64 (x10_1 + 1)) * (wrap64 ((a1.size : Int) + 1)))) + x11_1)) < (t146.length : Int) then (if 0 ≤ (wrap64 ((wrap64 ((wrap64 (x10_1 * (wrap64 ((a1.size : Int) + 1)))) + x11_1)) + 1)) then (if (wrap64 ((wrap64 ((wrap64 (x10_1 * (wrap64 ((a1.size : Int) + 1)))) + x11_1)) + 1)) < (t146.length : Int) then (if (rd t146 (wrap64 ((wrap64 ((wrap64 (x10_1 + 1)) * (wrap64 ((a1.size : Int) + 1)))) + x11_1))) ≤ (rd t146 (wrap64 ((wrap64 ((wrap64 (x10_1 * (wrap64 ((a1.size : Int) + 1)))) + x11_1)) + 1))) then (emendateref06_Diff.l0 kj9 a0 a1 t146 (wrap64 ((a1.size : Int) + 1)) x7_1 true (wrap64 (x10_1 + 1)) x11_1 x150000_1 (wrap64 (x150001_1 + 1)) x150002_1) else (if 0 ≤ x11_1 then (if x11_1 ≤ (wrap64 (x11_1 + 1)) then (if (wrap64 (x11_1 + 1)) ≤ (a1.size : Int) then (if x150002_1.size + (a1.extract (x11_1 : Int).toNat ((wrap64 (x11_1 + 1)) : Int).toNat).size ≤ 9223372036854775807 then (emendateref06_Diff.l0 kj9 a0 a1 t146 (wrap64 ((a1.size : Int) + 1)) x7_1 true x10_1 (wrap64 (x11_1 + 1)) x150000_1 x150001_1 (x150002_1 ++ (a1.extract (x11_1 : Int).toNat ((wrap64 (x11_1 + 1)) : Int).toNat))) else (none)) else (none)) else (none)) else (none))) else (none)) else (none)) else (none)) else (none)) else (if 0 ≤ x11_1 then (if x11_1 ≤ (wrap64 (x11_1 + 1)) then (if (wrap64 (x11_1 + 1)) ≤ (a1.size : Int) then (if x150002_1.size + (a1.extract (x11_1 : Int).toNat ((wrap64 (x11_1 + 1)) : Int).toNat).size ≤ 9223372036854775807 then (emendateref06_Diff.l0 kj9 a0 a1 t146 (wrap64 ((a1.size : Int) + 1)) x7_1 true x10_1 (wrap64 (x11_1 + 1)) x150000_1 x150001_1 (x150002_1 ++ (a1.extract (x11_1 : Int).toNat ((wrap64 (x11_1 + 1)) : Int).toNat))) else (none)) else (none)) else (none)) else (none)))) = some r := by rw [if_pos rfl] at H; exact H
          clear H
          have H := H1
          clear H1
          by_cases c26 : x11_1 = (a1.size : Int)
          ·
           rw [if_pos c26] at H
           have c26b0 : (x11_1 == (a1.size : Int)) = true := beq_iff_eq.mpr c26
           have c26b1 : (x11_1 != (a1.size : Int)) = false := bne_eq_false_iff_eq.mpr c26
           clear c26
           have H' := Aside0.mk H
           clear H
           try go_wp2
           have n0_ := Aside0.mk (Kd.R_drew HO_5.out)
           have n1_ := Aside0.mk (Kd.R_drew HO_7.out)
           have n2_ := Aside0.mk (blk_drew BK149.out)
           have n3_ := Aside0.mk (below_drew1 HB.out)
           clear HO_5
           clear HO_7
           clear BK149
           clear HB
           have HO_5 := n0_
           have HO_7 := n1_
           have BK149 := n2_
           have HB := n3_
           clear n0_ n1_ n2_ n3_
           refine start_ (n := 31) (S := fun w' => True) (ds := []) #[false,false,false,false,false,false,false,false,false,false,false,false,false,false,false,false,false,false,false,false,false,false,false,false,false,false,false,false,false,false,false] (by kernel_rfl) rfl rfl trivial (fun hHeld => ?_); refine with_tabW emendateref06_Diff.tab16 emendateref06_Diff.bits16 (fun HT_ HW_ => ?_)
           generalize wc.drew = w27 at HO_5 HO_7 BK149 HB hHeld ⊢
           refine pure_ (i := 0) (N := some 61) (v := ?_) (a' := ?_) #[true,false,false,false,false,false,false,false,false,false,false,false,false,false,false,false,false,false,false,false,false,false,false,false,false,false,false,false,false,false,false] rfl rfl (any_of HT_.out (by kernel_rfl)) (fun _ _ _ h => h) (Or.inl ⟨by rfl, ?_⟩) ?_ ?_; rotate_left; · (intro w'; go_simp; with_reducible rfl)
           rotate_left; · (simp only [Act.put, sq0_, sq1_, sq2_, i64_w, i32_w]; rfl)
           refine pure_ (i := 1) (N := some 62) (v := ?_) (a' := ?_) #[true,true,false,false,false,false,false,false,false,false,false,false,false,false,false,false,false,false,false,false,false,false,false,false,false,false,false,false,false,false,false] rfl rfl (any_of HT_.out (by kernel_rfl)) (fun _ _ _ h => h) (Or.inl ⟨by rfl, ?_⟩) ?_ ?_; rotate_left; · (intro w'; go_simp; with_reducible rfl)
           rotate_left; · (simp only [Act.put, sq0_, sq1_, sq2_, i64_w, i32_w]; rfl)
           refine pure_ (i := 2) (N := some 63) (v := ?_) (a' := ?_) #[true,true,true,false,false,false,false,false,false,false,false,false,false,false,false,false,false,false,false,false,false,false,false,false,false,false,false,false,false,false,false] rfl rfl (any_of HT_.out (by kernel_rfl)) (fun _ _ _ h => h) (Or.inl ⟨by rfl, ?_⟩) ?_ ?_; rotate_left; · (intro w'; go_simp; with_reducible rfl)
           rotate_left; · (simp only [Act.put, sq0_, sq1_, sq2_, i64_w, i32_w]; rfl)
           refine pure_ (i := 3) (N := some 64) (v := ?_) (a' := ?_) #[true,true,true,true,false,false,false,false,false,false,false,false,false,false,false,false,false,false,false,false,false,false,false,false,false,false,false,false,false,false,false] rfl rfl (any_of HT_.out (by kernel_rfl)) (fun _ _ _ h => h) (Or.inl ⟨by rfl, ?_⟩) ?_ ?_; rotate_left; · (intro w'; go_simp; with_reducible rfl)
           rotate_left; · (simp only [Act.put, sq0_, sq1_, sq2_, i64_w, i32_w]; rfl)
           refine pure_ (i := 4) (N := some 65) (v := ?_) (a' := ?_) #[true,true,true,true,true,false,false,false,false,false,false,false,false,false,false,false,false,false,false,false,false,false,false,false,false,false,false,false,false,false,false] rfl rfl (any_of HT_.out (by kernel_rfl)) (fun _ _ _ h => h) (Or.inl ⟨by rfl, ?_⟩) ?_ ?_; rotate_left; · (intro w'; go_simp; with_reducible rfl)
           rotate_left; · (simp only [Act.put, sq0_, sq1_, sq2_, i64_w, i32_w]; rfl)
           refine pure_ (i := 5) (N := some 66) (v := undef) (a' := ?_) #[true,true,true,true,true,true,false,false,false,false,false,false,false,false,false,false,false,false,false,false,false,false,false,false,false,false,false,false,false,false,false] rfl rfl (any_of HT_.out (by kernel_rfl)) (fun _ _ _ h => h) (Or.inr ⟨by rfl, rfl⟩) ?_ ?_
           rotate_left
           ·
            simp only [Act.put, sq0_, sq1_, sq2_, i64_w, i32_w]
            rfl
           refine pure_ (i := 6) (N := some 67) (v := undef) (a' := ?_) #[true,true,true,true,true,true,true,false,false,false,false,false,false,false,false,false,false,false,false,false,false,false,false,false,false,false,false,false,false,false,false] rfl rfl (any_of HT_.out (by kernel_rfl)) (fun _ _ _ h => h) (Or.inr ⟨by rfl, rfl⟩) ?_ ?_
           rotate_left
           ·
            simp only [Act.put, sq0_, sq1_, sq2_, i64_w, i32_w]
            rfl
           refine pure_ (i := 7) (N := some 68) (v := undef) (a' := ?_) #[true,true,true,true,true,true,true,true,false,false,false,false,false,false,false,false,false,false,false,false,false,false,false,false,false,false,false,false,false,false,false] rfl rfl (any_of HT_.out (by kernel_rfl)) (fun _ _ _ h => h) (Or.inr ⟨by rfl, rfl⟩) ?_ ?_
           rotate_left
           ·
            simp only [Act.put, sq0_, sq1_, sq2_, i64_w, i32_w]
            rfl
           refine pure_ (i := 8) (N := some 69) (v := undef) (a' := ?_) #[true,true,true,true,true,true,true,true,true,false,false,false,false,false,false,false,false,false,false,false,false,false,false,false,false,false,false,false,false,false,false] rfl rfl (any_of HT_.out (by kernel_rfl)) (fun _ _ _ h => h) (Or.inr ⟨by rfl, rfl⟩) ?_ ?_
           rotate_left
           ·
            simp only [Act.put, sq0_, sq1_, sq2_, i64_w, i32_w]
            rfl
           refine pure_ (i := 9) (N := some 70) (v := undef) (a' := ?_) #[true,true,true,true,true,true,true,true,true,true,false,false,false,false,false,false,false,false,false,false,false,false,false,false,false,false,false,false,false,false,false] rfl rfl (any_of HT_.out (by kernel_rfl)) (fun _ _ _ h => h) (Or.inr ⟨by rfl, rfl⟩) ?_ ?_
           rotate_left
           ·
            simp only [Act.put, sq0_, sq1_, sq2_, i64_w, i32_w]
            rfl
           refine pure_ (i := 10) (N := some 71) (v := undef) (a' := ?_) #[true,true,true,true,true,true,true,true,true,true,true,false,false,false,false,false,false,false,false,false,false,false,false,false,false,false,false,false,false,false,false] rfl rfl (any_of HT_.out (by kernel_rfl)) (fun _ _ _ h => h) (Or.inr ⟨by rfl, rfl⟩) ?_ ?_
           rotate_left
           ·
            simp only [Act.put, sq0_, sq1_, sq2_, i64_w, i32_w]
            rfl
           refine pure_ (i := 11) (N := some 72) (v := undef) (a' := ?_) #[true,true,true,true,true,true,true,true,true,true,true,true,false,false,false,false,false,false,false,false,false,false,false,false,false,false,false,false,false,false,false] rfl rfl (any_of HT_.out (by kernel_rfl)) (fun _ _ _ h => h) (Or.inr ⟨by rfl, rfl⟩) ?_ ?_
           rotate_left
           ·
            simp only [Act.put, sq0_, sq1_, sq2_, i64_w, i32_w]
            rfl
           refine pure_ (i := 12) (N := some 73) (v := undef) (a' := ?_) #[true,true,true,true,true,true,true,true,true,true,true,true,true,false,false,false,false,false,false,false,false,false,false,false,false,false,false,false,false,false,false] rfl rfl (any_of HT_.out (by kernel_rfl)) (fun _ _ _ h => h) (Or.inr ⟨by rfl, rfl⟩) ?_ ?_
           rotate_left
           ·
            simp only [Act.put, sq0_, sq1_, sq2_, i64_w, i32_w]
            rfl
           refine pure_ (i := 13) (N := some 74) (v := undef) (a' := ?_) #[true,true,true,true,true,true,true,true,true,true,true,true,true,true,false,false,false,false,false,false,false,false,false,false,false,false,false,false,false,false,false] rfl rfl (any_of HT_.out (by kernel_rfl)) (fun _ _ _ h => h) (Or.inr ⟨by rfl, rfl⟩) ?_ ?_
           rotate_left
           ·
            simp only [Act.put, sq0_, sq1_, sq2_, i64_w, i32_w]
            rfl
           refine pure_ (i := 14) (N := some 75) (v := undef) (a' := ?_) #[true,true,true,true,true,true,true,true,true,true,true,true,true,true,true,false,false,false,false,false,false,false,false,false,false,false,false,false,false,false,false] rfl rfl (any_of HT_.out (by kernel_rfl)) (fun _ _ _ h => h) (Or.inr ⟨by rfl, rfl⟩) ?_ ?_
           rotate_left
           ·
            simp only [Act.put, sq0_, sq1_, sq2_, i64_w, i32_w]
            rfl
           refine pure_ (i := 15) (N := some 76) (v := undef) (a' := ?_) #[true,true,true,true,true,true,true,true,true,true,true,true,true,true,true,true,false,false,false,false,false,false,false,false,false,false,false,false,false,false,false] rfl rfl (any_of HT_.out (by kernel_rfl)) (fun _ _ _ h => h) (Or.inr ⟨by rfl, rfl⟩) ?_ ?_
           rotate_left
           ·
            simp only [Act.put, sq0_, sq1_, sq2_, i64_w, i32_w]
            rfl
           refine pure_ (i := 16) (N := some 77) (v := undef) (a' := ?_) #[true,true,true,true,true,true,true,true,true,true,true,true,true,true,true,true,true,false,false,false,false,false,false,false,false,false,false,false,false,false,false] rfl rfl (any_of HT_.out (by kernel_rfl)) (fun _ _ _ h => h) (Or.inr ⟨by rfl, rfl⟩) ?_ ?_
           rotate_left
           ·
            simp only [Act.put, sq0_, sq1_, sq2_, i64_w, i32_w]
            rfl
           refine pure_ (i := 17) (N := some 78) (v := undef) (a' := ?_) #[true,true,true,true,true,true,true,true,true,true,true,true,true,true,true,true,true,true,false,false,false,false,false,false,false,false,false,false,false,false,false] rfl rfl (any_of HT_.out (by kernel_rfl)) (fun _ _ _ h => h) (Or.inr ⟨by rfl, rfl⟩) ?_ ?_
           rotate_left
           ·
            simp only [Act.put, sq0_, sq1_, sq2_, i64_w, i32_w]
            rfl
           refine pure_ (i := 18) (N := some 79) (v := undef) (a' := ?_) #[true,true,true,true,true,true,true,true,true,true,true,true,true,true,true,true,true,true,true,false,false,false,false,false,false,false,false,false,false,false,false] rfl rfl (any_of HT_.out (by kernel_rfl)) (fun _ _ _ h => h) (Or.inr ⟨by rfl, rfl⟩) ?_ ?_
           rotate_left
           ·
            simp only [Act.put, sq0_, sq1_, sq2_, i64_w, i32_w]
            rfl
           refine pure_ (i := 19) (N := some 80) (v := undef) (a' := ?_) #[true,true,true,true,true,true,true,true,true,true,true,true,true,true,true,true,true,true,true,true,false,false,false,false,false,false,false,false,false,false,false] rfl rfl (any_of HT_.out (by kernel_rfl)) (fun _ _ _ h => h) (Or.inr ⟨by rfl, rfl⟩) ?_ ?_
           rotate_left
           ·
            simp only [Act.put, sq0_, sq1_, sq2_, i64_w, i32_w]
            rfl
           refine pure_ (i := 20) (N := some 81) (v := undef) (a' := ?_) #[true,true,true,true,true,true,true,true,true,true,true,true,true,true,true,true,true,true,true,true,true,false,false,false,false,false,false,false,false,false,false] rfl rfl (any_of HT_.out (by kernel_rfl)) (fun _ _ _ h => h) (Or.inr ⟨by rfl, rfl⟩) ?_ ?_
           rotate_left
           ·
            simp only [Act.put, sq0_, sq1_, sq2_, i64_w, i32_w]
            rfl
           refine pure_ (i := 21) (N := some 82) (v := undef) (a' := ?_) #[true,true,true,true,true,true,true,true,true,true,true,true,true,true,true,true,true,true,true,true,true,true,false,false,false,false,false,false,false,false,false] rfl rfl (any_of HT_.out (by kernel_rfl)) (fun _ _ _ h => h) (Or.inr ⟨by rfl, rfl⟩) ?_ ?_
           rotate_left
           ·
            simp only [Act.put, sq0_, sq1_, sq2_, i64_w, i32_w]
            rfl
           refine pure_ (i := 22) (N := some 83) (v := undef) (a' := ?_) #[true,true,true,true,true,true,true,true,true,true,true,true,true,true,true,true,true,true,true,true,true,true,true,false,false,false,false,false,false,false,false] rfl rfl (any_of HT_.out (by kernel_rfl)) (fun _ _ _ h => h) (Or.inr ⟨by rfl, rfl⟩) ?_ ?_
           rotate_left
           ·
            simp only [Act.put, sq0_, sq1_, sq2_, i64_w, i32_w]
            rfl
           refine pure_ (i := 23) (N := some 84) (v := undef) (a' := ?_) #[true,true,true,true,true,true,true,true,true,true,true,true,true,true,true,true,true,true,true,true,true,true,true,true,false,false,false,false,false,false,false] rfl rfl (any_of HT_.out (by kernel_rfl)) (fun _ _ _ h => h) (Or.inr ⟨by rfl, rfl⟩) ?_ ?_
           rotate_left
           ·
            simp only [Act.put, sq0_, sq1_, sq2_, i64_w, i32_w]
            rfl
           refine pure_ (i := 24) (N := some 85) (v := undef) (a' := ?_) #[true,true,true,true,true,true,true,true,true,true,true,true,true,true,true,true,true,true,true,true,true,true,true,true,true,false,false,false,false,false,false] rfl rfl (any_of HT_.out (by kernel_rfl)) (fun _ _ _ h => h) (Or.inr ⟨by rfl, rfl⟩) ?_ ?_
           rotate_left
           ·
            simp only [Act.put, sq0_, sq1_, sq2_, i64_w, i32_w]
            rfl
           refine pure_ (i := 25) (N := some 86) (v := undef) (a' := ?_) #[true,true,true,true,true,true,true,true,true,true,true,true,true,true,true,true,true,true,true,true,true,true,true,true,true,true,false,false,false,false,false] rfl rfl (any_of HT_.out (by kernel_rfl)) (fun _ _ _ h => h) (Or.inr ⟨by rfl, rfl⟩) ?_ ?_
           rotate_left
           ·
            simp only [Act.put, sq0_, sq1_, sq2_, i64_w, i32_w]
            rfl
           refine pure_ (i := 26) (N := some 87) (v := undef) (a' := ?_) #[true,true,true,true,true,true,true,true,true,true,true,true,true,true,true,true,true,true,true,true,true,true,true,true,true,true,true,false,false,false,false] rfl rfl (any_of HT_.out (by kernel_rfl)) (fun _ _ _ h => h) (Or.inr ⟨by rfl, rfl⟩) ?_ ?_
           rotate_left
           ·
            simp only [Act.put, sq0_, sq1_, sq2_, i64_w, i32_w]
            rfl
           refine pure_ (i := 27) (N := some 88) (v := undef) (a' := ?_) #[true,true,true,true,true,true,true,true,true,true,true,true,true,true,true,true,true,true,true,true,true,true,true,true,true,true,true,true,false,false,false] rfl rfl (any_of HT_.out (by kernel_rfl)) (fun _ _ _ h => h) (Or.inr ⟨by rfl, rfl⟩) ?_ ?_
           rotate_left
           ·
            simp only [Act.put, sq0_, sq1_, sq2_, i64_w, i32_w]
            rfl
           refine pure_ (i := 28) (N := some 89) (v := undef) (a' := ?_) #[true,true,true,true,true,true,true,true,true,true,true,true,true,true,true,true,true,true,true,true,true,true,true,true,true,true,true,true,true,false,false] rfl rfl (any_of HT_.out (by kernel_rfl)) (fun _ _ _ h => h) (Or.inr ⟨by rfl, rfl⟩) ?_ ?_
           rotate_left
           ·
            simp only [Act.put, sq0_, sq1_, sq2_, i64_w, i32_w]
            rfl
           refine pure_ (i := 29) (N := some 90) (v := undef) (a' := ?_) #[true,true,true,true,true,true,true,true,true,true,true,true,true,true,true,true,true,true,true,true,true,true,true,true,true,true,true,true,true,true,false] rfl rfl (any_of HT_.out (by kernel_rfl)) (fun _ _ _ h => h) (Or.inr ⟨by rfl, rfl⟩) ?_ ?_
           rotate_left
           ·
            simp only [Act.put, sq0_, sq1_, sq2_, i64_w, i32_w]
            rfl
           refine pure_ (i := 30) (N := some 91) (v := ?_) (a' := ?_) #[true,true,true,true,true,true,true,true,true,true,true,true,true,true,true,true,true,true,true,true,true,true,true,true,true,true,true,true,true,true,true] rfl rfl (any_of HT_.out (by kernel_rfl)) (fun _ _ _ h => h) (Or.inl ⟨by rfl, ?_⟩) ?_ ?_; rotate_left; · (intro w'; go_simp; with_reducible rfl)
           rotate_left; · (simp only [Act.put, sq0_, sq1_, sq2_, i64_w, i32_w]; rfl)
           refine done_ (done_of HT_.out (by kernel_rfl)) ?_
           have hcz28_0 : w27.cell? ⟨gb149, 0, none⟩ = some (.int .i64 x150000_1) := (blk_cell BK149.out 0).trans rfl
           have hcz28_1 : w27.cell? ⟨gb149, 1, none⟩ = some (.int .i64 x150001_1) := (blk_cell BK149.out 1).trans rfl
           have hcz28_2 : w27.cell? ⟨gb149, 2, none⟩ = some (.string x150002_1) := (blk_cell BK149.out 2).trans rfl
           have hfz28_0 := blk_frozen BK149.out 0
           have hfz28_1 := blk_frozen BK149.out 1
           have hfz28_2 := blk_frozen BK149.out 2
           try go_wp2
           go_roundg kj9
           case measure => have := HK1.out; have := HJ6.out; have := HJ9.out; omega
           case rel => exact ⟨(x7_1), (true), (wrap64 (x10_1 + 1)), (x11_1), (x150000_1), (wrap64 (x150001_1 + 1)), (x150002_1), (by first | rfl | (simp; done) | (simp [*]; done)), (by first | rfl | (simp; done) | (simp [*]; done)), (by first | rfl | (simp; done) | (simp [*]; done)), H', ⟨by have := HK1.out; have := HJ6.out; have := HJ9.out; omega⟩, ⟨by (with_reducible repeat (first | apply Kd.R_alloc | apply Kd.R_drewN | apply Kd.R_drew)); exact Kd.R_mono (Kd.R_far (p := ⟨gb149, 1, none⟩) (Kd.R_types HO_5.out BK149.out (by decide)) (fun _ hk => hk.2) (.int .i64 (wrap64 (x150001_1 + 1)))) (fun _ hk => trivial)⟩, ⟨by (with_reducible repeat (first | apply Kd.R_alloc | apply Kd.R_drewN | apply Kd.R_drew)); exact Kd.R_mono (Kd.R_far (p := ⟨gb149, 1, none⟩) (Kd.R_mono HO_7.out (fun k_ hk => (⟨hk, hk⟩ : _ ∧ k_ ≠ gb149))) (fun _ hk => hk.2) (.int .i64 (wrap64 (x150001_1 + 1)))) (fun _ hk => hk.1)⟩, ⟨by (with_reducible repeat (first | refine blk_drewN ?_ _ | refine blk_drew ?_ | refine blk_alloc ?_ _)); refine blk_put (cs := #[.int .i64 x150000_1, .int .i64 x150001_1, .string x150002_1]) ?_ 1 _ rfl; (with_reducible repeat (first | refine blk_drewN ?_ _ | refine blk_drew ?_ | refine blk_alloc ?_ _)); exact BK149.out⟩, ⟨by repeat (first | (with_reducible first | exact HB.out | apply below_alloc | apply pw_below_drewN | apply below_drew1 | refine below_set ?_ GE149.out) | exact HB.out)⟩⟩
          ·
           rw [if_neg c26] at H
           have c26b0 : (x11_1 == (a1.size : Int)) = false := beq_eq_false_iff_ne.mpr c26
           have c26b1 : (x11_1 != (a1.size : Int)) = true := bne_iff_ne.mpr c26
           by_cases c29 : x10_1 < (a0.size : Int)
           ·
            rw [if_pos c29] at H
            have c29b0 : decide (x10_1 < (a0.size : Int)) = true := decide_eq_true c29
            clear c29
            obtain ⟨ji30, hji30⟩ : ∃ j_ : Int, (wrap64 ((wrap64 ((wrap64 (x10_1 + 1)) * (wrap64 ((a1.size : Int) + 1)))) + x11_1)) = j_ := ⟨_, rfl⟩
            replace H : (if 0 ≤ (ji30) then (if (ji30) < (t146.length : Int) then (if 0 ≤ (wrap64 ((wrap64 ((wrap64 (x10_1 * (wrap64 ((a1.size : Int) + 1)))) + x11_1)) + 1)) then (if (wrap64 ((wrap64 ((wrap64 (x10_1 * (wrap64 ((a1.size : Int) + 1)))) + x11_1)) + 1)) < (t146.length : Int) then (if (rd t146 (ji30)) ≤ (rd t146 (wrap64 ((wrap64 ((wrap64 (x10_1 * (wrap64 ((a1.size : Int) + 1)))) + x11_1)) + 1))) then (emendateref06_Diff.l0 kj9 a0 a1 t146 (wrap64 ((a1.size : Int) + 1)) x7_1 true (wrap64 (x10_1 + 1)) x11_1 x150000_1 (wrap64 (x150001_1 + 1)) x150002_1) else (if 0 ≤ x11_1 then (if x11_1 ≤ (wrap64 (x11_1 + 1)) then (if (wrap64 (x11_1 + 1)) ≤ (a1.size : Int) then (if x150002_1.size + (a1.extract (x11_1 : Int).toNat ((wrap64 (x11_1 + 1)) : Int).toNat).size ≤ 9223372036854775807 then (emendateref06_Diff.l0 kj9 a0 a1 t146 (wrap64 ((a1.size : Int) + 1)) x7_1 true x10_1 (wrap64 (x11_1 + 1)) x150000_1 x150001_1 (x150002_1 ++ (a1.extract (x11_1 : Int).toNat ((wrap64 (x11_1 + 1)) : Int).toNat))) else (none)) else (none)) else (none)) else (none))) else (none)) else (none)) else (none)) else (none)) = some r := by first | (rw [hji30] at H; exact H) | (simp only [hji30] at H ⊢; exact H)
            have hji30w : (IntKind.i64.wrap ((wrap64 ((wrap64 (x10_1 + 1)) * (wrap64 ((a1.size : Int) + 1)))) + x11_1)) = ji30 := (i64_w _).trans hji30
            by_cases c31 : 0 ≤ (ji30)
            ·
             rw [if_pos c31] at H
             have c31b0 : decide (0 ≤ (ji30)) = true := decide_eq_true c31
             clear c31
             by_cases c32 : (ji30) < (t146.length : Int)
             ·
              rw [if_pos c32] at H
              have c32b0 : decide ((ji30) < (t146.length : Int)) = true := decide_eq_true c32
              clear c32
              obtain ⟨ji33, hji33⟩ : ∃ j_ : Int, (wrap64 ((wrap64 ((wrap64 (x10_1 * (wrap64 ((a1.size : Int) + 1)))) + x11_1)) + 1)) = j_ := ⟨_, rfl⟩
              replace H : (if 0 ≤ (ji33) then (if (ji33) < (t146.length : Int) then (if (rd t146 (ji30)) ≤ (rd t146 (ji33)) then (emendateref06_Diff.l0 kj9 a0 a1 t146 (wrap64 ((a1.size : Int) + 1)) x7_1 true (wrap64 (x10_1 + 1)) x11_1 x150000_1 (wrap64 (x150001_1 + 1)) x150002_1) else (if 0 ≤ x11_1 then (if x11_1 ≤ (wrap64 (x11_1 + 1)) then (if (wrap64 (x11_1 + 1)) ≤ (a1.size : Int) then (if x150002_1.size + (a1.extract (x11_1 : Int).toNat ((wrap64 (x11_1 + 1)) : Int).toNat).size ≤ 9223372036854775807 then (emendateref06_Diff.l0 kj9 a0 a1 t146 (wrap64 ((a1.size : Int) + 1)) x7_1 true x10_1 (wrap64 (x11_1 + 1)) x150000_1 x150001_1 (x150002_1 ++ (a1.extract (x11_1 : Int).toNat ((wrap64 (x11_1 + 1)) : Int).toNat))) else (none)) else (none)) else (none)) else (none))) else (none)) else (none)) = some r := by first | (rw [hji33] at H; exact H) | (simp only [hji33] at H ⊢; exact H)
              have hji33w : (IntKind.i64.wrap ((wrap64 ((wrap64 (x10_1 * (wrap64 ((a1.size : Int) + 1)))) + x11_1)) + 1)) = ji33 := (i64_w _).trans hji33
              by_cases c34 : 0 ≤ (ji33)
              ·
               rw [if_pos c34] at H
               have c34b0 : decide (0 ≤ (ji33)) = true := decide_eq_true c34
               clear c34
               by_cases c35 : (ji33) < (t146.length : Int)
               ·
                rw [if_pos c35] at H
                have c35b0 : decide ((ji33) < (t146.length : Int)) = true := decide_eq_true c35
                clear c35
                by_cases c36 : (rd t146 (ji30)) ≤ (rd t146 (ji33))
                ·
                 rw [if_pos c36] at H
                 have c36b0 : decide ((rd t146 (ji30)) ≤ (rd t146 (ji33))) = true := decide_eq_true c36
                 clear c36
                 have H' := Aside0.mk H
                 clear H
                 try go_wp2
                 have n0_ := Aside0.mk (Kd.R_drew HO_5.out)
                 have n1_ := Aside0.mk (Kd.R_drew HO_7.out)
                 have n2_ := Aside0.mk (blk_drew BK149.out)
                 have n3_ := Aside0.mk (below_drew1 HB.out)
                 clear HO_5
                 clear HO_7
                 clear BK149
                 clear HB
                 have HO_5 := n0_
                 have HO_7 := n1_
                 have BK149 := n2_
                 have HB := n3_
                 clear n0_ n1_ n2_ n3_
                 obtain ⟨Ao38, co38, eo38⟩ := Kd.R_slice HO_5.out
                 (first | subst eo38 | (injection eo38 with f1_ f2_ f3_; have f4_ := f1_.symm; have f5_ := f3_.symm; clear f1_ f2_ f3_; subst f4_; subst f5_))
                 have p156 : 0 ≤ ((ji30) : Int) := of_decide_eq_true (by first | (with_reducible assumption) | assumption)
                 have q156 : (ji30) < (t146.length : Int) := of_decide_eq_true (by first | (with_reducible assumption) | assumption)
                 obtain ⟨ad156, e156, hx156_0⟩ := Kd.at_int (Kd.R_reads' HO_5.out).2.2 (ji30) p156 q156
                 cases e156
                 replace p156 := eq_true p156
                 replace q156 := eq_true q156
                 have p157 : 0 ≤ ((ji33) : Int) := of_decide_eq_true (by first | (with_reducible assumption) | assumption)
                 have q157 : (ji33) < (t146.length : Int) := of_decide_eq_true (by first | (with_reducible assumption) | assumption)
                 obtain ⟨ad157, e157, hx157_0⟩ := Kd.at_int (Kd.R_reads' HO_5.out).2.2 (ji33) p157 q157
                 obtain rfl : ad156 = ad157 := (by injection e157)
                 replace p157 := eq_true p157
                 replace q157 := eq_true q157
                 refine start_ (n := 31) (S := fun w' => w'.cell? (ad156.add ((ji30)).toNat) = some (.int .i64 (rd t146 (ji30))) ∧ w'.cell? (ad156.add ((ji33)).toNat) = some (.int .i64 (rd t146 (ji33)))) (ds := []) #[false,false,false,false,false,false,false,false,false,false,false,false,false,false,false,false,false,false,false,false,false,false,false,false,false,false,false,false,false,false,false] (by kernel_rfl) rfl rfl ⟨hx156_0, hx157_0⟩ (fun hHeld => ?_); refine with_tabW emendateref06_Diff.tab16 emendateref06_Diff.bits16 (fun HT_ HW_ => ?_)
                 generalize wc.drew = w37 at HO_5 HO_7 BK149 HB hx156_0 hx157_0 hHeld ⊢
                 refine pure_ (i := 0) (N := some 61) (v := ?_) (a' := ?_) #[true,false,false,false,false,false,false,false,false,false,false,false,false,false,false,false,false,false,false,false,false,false,false,false,false,false,false,false,false,false,false] rfl rfl (any_of HT_.out (by kernel_rfl)) (fun _ _ _ h => h) (Or.inl ⟨by rfl, ?_⟩) ?_ ?_; rotate_left; · (intro w'; go_simp; with_reducible rfl)
                 rotate_left; · (simp only [Act.put, sq0_, sq1_, sq2_, i64_w, i32_w]; rfl)
                 refine pure_ (i := 1) (N := some 62) (v := ?_) (a' := ?_) #[true,true,false,false,false,false,false,false,false,false,false,false,false,false,false,false,false,false,false,false,false,false,false,false,false,false,false,false,false,false,false] rfl rfl (any_of HT_.out (by kernel_rfl)) (fun _ _ _ h => h) (Or.inl ⟨by rfl, ?_⟩) ?_ ?_; rotate_left; · (intro w'; go_simp; with_reducible rfl)
                 rotate_left; · (simp only [Act.put, sq0_, sq1_, sq2_, i64_w, i32_w]; rfl)
                 refine pure_ (i := 2) (N := some 63) (v := ?_) (a' := ?_) #[true,true,true,false,false,false,false,false,false,false,false,false,false,false,false,false,false,false,false,false,false,false,false,false,false,false,false,false,false,false,false] rfl rfl (any_of HT_.out (by kernel_rfl)) (fun _ _ _ h => h) (Or.inl ⟨by rfl, ?_⟩) ?_ ?_; rotate_left; · (intro w'; go_simp; with_reducible rfl)
                 rotate_left; · (simp only [Act.put, sq0_, sq1_, sq2_, i64_w, i32_w]; rfl)
                 refine pure_ (i := 3) (N := some 64) (v := ?_) (a' := ?_) #[true,true,true,true,false,false,false,false,false,false,false,false,false,false,false,false,false,false,false,false,false,false,false,false,false,false,false,false,false,false,false] rfl rfl (any_of HT_.out (by kernel_rfl)) (fun _ _ _ h => h) (Or.inl ⟨by rfl, ?_⟩) ?_ ?_; rotate_left; · (intro w'; go_simp; with_reducible rfl)
                 rotate_left; · (simp only [Act.put, sq0_, sq1_, sq2_, i64_w, i32_w]; rfl)
                 refine pure_ (i := 4) (N := some 65) (v := ?_) (a' := ?_) #[true,true,true,true,true,false,false,false,false,false,false,false,false,false,false,false,false,false,false,false,false,false,false,false,false,false,false,false,false,false,false] rfl rfl (any_of HT_.out (by kernel_rfl)) (fun _ _ _ h => h) (Or.inl ⟨by rfl, ?_⟩) ?_ ?_; rotate_left; · (intro w'; go_simp; with_reducible rfl)
                 rotate_left; · (simp only [Act.put, sq0_, sq1_, sq2_, i64_w, i32_w]; rfl)
                 refine pure_ (i := 5) (N := some 66) (v := ?_) (a' := ?_) #[true,true,true,true,true,true,false,false,false,false,false,false,false,false,false,false,false,false,false,false,false,false,false,false,false,false,false,false,false,false,false] rfl rfl (any_of HT_.out (by kernel_rfl)) (fun _ _ _ h => h) (Or.inl ⟨by rfl, ?_⟩) ?_ ?_; rotate_left; · (intro w'; go_simp; with_reducible rfl)
                 rotate_left; · (simp only [Act.put, sq0_, sq1_, sq2_, i64_w, i32_w]; rfl)
                 refine pure_ (i := 6) (N := some 67) (v := ?_) (a' := ?_) #[true,true,true,true,true,true,true,false,false,false,false,false,false,false,false,false,false,false,false,false,false,false,false,false,false,false,false,false,false,false,false] rfl rfl (any_of HT_.out (by kernel_rfl)) (fun _ _ _ h => h) (Or.inl ⟨by rfl, ?_⟩) ?_ ?_; rotate_left; · (intro w'; go_simp; with_reducible rfl)
                 rotate_left; · (simp only [Act.put, sq0_, sq1_, sq2_, i64_w, i32_w]; rfl)
                 refine pure_ (i := 7) (N := some 68) (v := ?_) (a' := ?_) #[true,true,true,true,true,true,true,true,false,false,false,false,false,false,false,false,false,false,false,false,false,false,false,false,false,false,false,false,false,false,false] rfl rfl (any_of HT_.out (by kernel_rfl)) (fun _ _ _ h => h) (Or.inl ⟨by rfl, ?_⟩) ?_ ?_; rotate_left; · (intro w'; go_simp; with_reducible rfl)
                 rotate_left; · (simp only [Act.put, sq0_, sq1_, sq2_, i64_w, i32_w]; rfl)
                 refine pure_ (i := 8) (N := some 69) (v := ?_) (a' := ?_) #[true,true,true,true,true,true,true,true,true,false,false,false,false,false,false,false,false,false,false,false,false,false,false,false,false,false,false,false,false,false,false] rfl rfl (any_of HT_.out (by kernel_rfl)) (fun _ _ _ h => h) (Or.inl ⟨by rfl, ?_⟩) ?_ ?_; rotate_left; · (intro w'; go_simp; with_reducible rfl)
                 rotate_left; · (simp only [Act.put, sq0_, sq1_, sq2_, i64_w, i32_w]; rfl)
                 refine pure_ (i := 9) (N := some 70) (v := ?_) (a' := ?_) #[true,true,true,true,true,true,true,true,true,true,false,false,false,false,false,false,false,false,false,false,false,false,false,false,false,false,false,false,false,false,false] rfl rfl (any_of HT_.out (by kernel_rfl)) (fun _ _ _ h => h) (Or.inl ⟨by rfl, ?_⟩) ?_ ?_; rotate_left; · (intro w'; go_simp; with_reducible rfl)
                 rotate_left; · (simp only [Act.put, sq0_, sq1_, sq2_, i64_w, i32_w]; rfl)
                 refine pure_ (i := 10) (N := some 71) (v := ?_) (a' := ?_) #[true,true,true,true,true,true,true,true,true,true,true,false,false,false,false,false,false,false,false,false,false,false,false,false,false,false,false,false,false,false,false] rfl rfl (any_of HT_.out (by kernel_rfl)) (fun _ _ _ h => h) (Or.inl ⟨by rfl, ?_⟩) ?_ ?_; rotate_left; · (intro w'; go_simp; with_reducible rfl)
                 rotate_left; · (simp only [Act.put, sq0_, sq1_, sq2_, i64_w, i32_w]; rfl)
                 refine pure_ (i := 11) (N := some 72) (v := ?_) (a' := ?_) #[true,true,true,true,true,true,true,true,true,true,true,true,false,false,false,false,false,false,false,false,false,false,false,false,false,false,false,false,false,false,false] rfl rfl (any_of HT_.out (by kernel_rfl)) (fun _ _ _ h => h) (Or.inl ⟨by rfl, ?_⟩) ?_ ?_; rotate_left; · (intro w'; go_simp; with_reducible rfl)
                 rotate_left; · (simp only [Act.put, sq0_, sq1_, sq2_, i64_w, i32_w]; rfl)
                 refine pure_ (i := 12) (N := some 73) (v := ?_) (a' := ?_) #[true,true,true,true,true,true,true,true,true,true,true,true,true,false,false,false,false,false,false,false,false,false,false,false,false,false,false,false,false,false,false] rfl rfl (any_of HT_.out (by kernel_rfl)) (fun _ _ _ h => h) (Or.inl ⟨by rfl, ?_⟩) ?_ ?_; rotate_left; · (intro w'; go_simp; with_reducible rfl)
                 rotate_left; · (simp only [Act.put, sq0_, sq1_, sq2_, i64_w, i32_w]; rfl)
                 refine pure_ (i := 13) (N := some 74) (v := ?_) (a' := ?_) #[true,true,true,true,true,true,true,true,true,true,true,true,true,true,false,false,false,false,false,false,false,false,false,false,false,false,false,false,false,false,false] rfl rfl (any_of HT_.out (by kernel_rfl)) (fun _ _ _ h => h) (Or.inl ⟨by rfl, ?_⟩) ?_ ?_; rotate_left; · (intro w'; go_simp; with_reducible rfl)
                 rotate_left; · (simp only [Act.put, sq0_, sq1_, sq2_, i64_w, i32_w]; rfl)
                 refine pure_ (i := 14) (N := some 75) (v := ?_) (a' := ?_) #[true,true,true,true,true,true,true,true,true,true,true,true,true,true,true,false,false,false,false,false,false,false,false,false,false,false,false,false,false,false,false] rfl rfl (any_of HT_.out (by kernel_rfl)) (fun _ _ _ h => h) (Or.inl ⟨by rfl, ?_⟩) ?_ ?_; rotate_left; · (intro w'; go_simp; with_reducible rfl)
                 rotate_left; · (simp only [Act.put, sq0_, sq1_, sq2_, i64_w, i32_w]; rfl)
                 refine pure_ (i := 15) (N := some 76) (v := ?_) (a' := ?_) #[true,true,true,true,true,true,true,true,true,true,true,true,true,true,true,true,false,false,false,false,false,false,false,false,false,false,false,false,false,false,false] rfl rfl (any_of HT_.out (by kernel_rfl)) (fun _ _ _ h => h) (Or.inl ⟨by rfl, ?_⟩) ?_ ?_; rotate_left; · (intro w'; go_simp; with_reducible rfl)
                 rotate_left; · (simp only [Act.put, sq0_, sq1_, sq2_, i64_w, i32_w]; rfl)
                 refine pure_ (i := 16) (N := some 77) (v := ?_) (a' := ?_) #[true,true,true,true,true,true,true,true,true,true,true,true,true,true,true,true,true,false,false,false,false,false,false,false,false,false,false,false,false,false,false] rfl rfl (any_of HT_.out (by kernel_rfl)) (fun _ _ _ h => h) (Or.inl ⟨by rfl, ?_⟩) ?_ ?_; rotate_left; · (intro w'; go_simp; with_reducible rfl)
                 rotate_left; · (simp only [Act.put, sq0_, sq1_, sq2_, i64_w, i32_w]; rfl)
                 refine pure_ (i := 17) (N := some 78) (v := ?_) (a' := ?_) #[true,true,true,true,true,true,true,true,true,true,true,true,true,true,true,true,true,true,false,false,false,false,false,false,false,false,false,false,false,false,false] rfl rfl (any_of HT_.out (by kernel_rfl)) (fun _ _ _ h => h) (Or.inl ⟨by rfl, ?_⟩) ?_ ?_; rotate_left; · (intro w'; go_simp; with_reducible rfl)
                 rotate_left; · (simp only [Act.put, sq0_, sq1_, sq2_, i64_w, i32_w]; rfl)
                 refine pure_ (i := 19) (N := some 80) (v := ?_) (a' := ?_) #[true,true,true,true,true,true,true,true,true,true,true,true,true,true,true,true,true,true,false,true,false,false,false,false,false,false,false,false,false,false,false] rfl rfl (any_of HT_.out (by kernel_rfl)) (fun _ _ _ h => h) (Or.inl ⟨by rfl, ?_⟩) ?_ ?_; rotate_left; · (intro w'; go_simp; with_reducible rfl)
                 rotate_left; · (simp only [Act.put, sq0_, sq1_, sq2_, i64_w, i32_w]; rfl)
                 refine pure_ (i := 20) (N := some 81) (v := ?_) (a' := ?_) #[true,true,true,true,true,true,true,true,true,true,true,true,true,true,true,true,true,true,false,true,true,false,false,false,false,false,false,false,false,false,false] rfl rfl (any_of HT_.out (by kernel_rfl)) (fun _ _ _ h => h) (Or.inl ⟨by rfl, ?_⟩) ?_ ?_; rotate_left; · (intro w'; go_simp; with_reducible rfl)
                 rotate_left; · (simp only [Act.put, sq0_, sq1_, sq2_, i64_w, i32_w]; rfl)
                 refine pure_ (i := 21) (N := some 82) (v := ?_) (a' := ?_) #[true,true,true,true,true,true,true,true,true,true,true,true,true,true,true,true,true,true,false,true,true,true,false,false,false,false,false,false,false,false,false] rfl rfl (any_of HT_.out (by kernel_rfl)) (fun _ _ _ h => h) (Or.inl ⟨by rfl, ?_⟩) ?_ ?_; rotate_left; · (intro w'; go_simp; with_reducible rfl)
                 rotate_left; · (simp only [Act.put, sq0_, sq1_, sq2_, i64_w, i32_w]; rfl)
                 refine pure_ (i := 22) (N := some 83) (v := ?_) (a' := ?_) #[true,true,true,true,true,true,true,true,true,true,true,true,true,true,true,true,true,true,false,true,true,true,true,false,false,false,false,false,false,false,false] rfl rfl (any_of HT_.out (by kernel_rfl)) (fun _ _ _ h => h) (Or.inl ⟨by rfl, ?_⟩) ?_ ?_; rotate_left; · (intro w'; go_simp; with_reducible rfl)
                 rotate_left; · (simp only [Act.put, sq0_, sq1_, sq2_, i64_w, i32_w]; rfl)
                 refine pure_ (i := 23) (N := some 84) (v := ?_) (a' := ?_) #[true,true,true,true,true,true,true,true,true,true,true,true,true,true,true,true,true,true,false,true,true,true,true,true,false,false,false,false,false,false,false] rfl rfl (any_of HT_.out (by kernel_rfl)) (fun _ _ _ h => h) (Or.inl ⟨by rfl, ?_⟩) ?_ ?_; rotate_left; · (intro w'; go_simp; with_reducible rfl)
                 rotate_left; · (simp only [Act.put, sq0_, sq1_, sq2_, i64_w, i32_w]; rfl)
                 refine pure_ (i := 24) (N := some 85) (v := ?_) (a' := ?_) #[true,true,true,true,true,true,true,true,true,true,true,true,true,true,true,true,true,true,false,true,true,true,true,true,true,false,false,false,false,false,false] rfl rfl (any_of HT_.out (by kernel_rfl)) (fun _ _ _ h => h) (Or.inl ⟨by rfl, ?_⟩) ?_ ?_; rotate_left; · (intro w'; go_simp; with_reducible rfl)
                 rotate_left; · (simp only [Act.put, sq0_, sq1_, sq2_, i64_w, i32_w]; rfl)
                 refine pure_ (i := 25) (N := some 86) (v := ?_) (a' := ?_) #[true,true,true,true,true,true,true,true,true,true,true,true,true,true,true,true,true,true,false,true,true,true,true,true,true,true,false,false,false,false,false] rfl rfl (any_of HT_.out (by kernel_rfl)) (fun _ _ _ h => h) (Or.inl ⟨by rfl, ?_⟩) ?_ ?_; rotate_left; · (intro w'; go_simp; with_reducible rfl)
                 rotate_left; · (simp only [Act.put, sq0_, sq1_, sq2_, i64_w, i32_w]; rfl)
                 refine pure_ (i := 26) (N := some 87) (v := ?_) (a' := ?_) #[true,true,true,true,true,true,true,true,true,true,true,true,true,true,true,true,true,true,false,true,true,true,true,true,true,true,true,false,false,false,false] rfl rfl (any_of HT_.out (by kernel_rfl)) (fun _ _ _ h => h) (Or.inl ⟨by rfl, ?_⟩) ?_ ?_; rotate_left; · (intro w'; go_simp; with_reducible rfl)
                 rotate_left; · (simp only [Act.put, sq0_, sq1_, sq2_, i64_w, i32_w]; rfl)
                 refine take_ (i := 18) (N := some 79) (v := ?_) (a' := ?_) #[true,true,true,true,true,true,true,true,true,true,true,true,true,true,true,true,true,true,true,true,true,true,true,true,true,true,true,false,false,false,false] rfl rfl (take_ofW HT_.out HW_.out (by kernel_rfl)) (fun _ _ _ h => h) (Or.inl ⟨by rfl, ?_⟩) hHeld ?_ ?_
                 rotate_left
                 ·
                  rintro w' ⟨s0, s1⟩
                  go_simp
                  with_reducible rfl
                 rotate_left
                 ·
                  simp only [Act.put, sq0_, sq1_, sq2_, i64_w, i32_w]
                  rfl
                 refine take_ (i := 27) (N := some 88) (v := ?_) (a' := ?_) #[true,true,true,true,true,true,true,true,true,true,true,true,true,true,true,true,true,true,true,true,true,true,true,true,true,true,true,true,false,false,false] rfl rfl (take_ofW HT_.out HW_.out (by kernel_rfl)) (fun _ _ _ h => h) (Or.inl ⟨by rfl, ?_⟩) hHeld ?_ ?_
                 rotate_left
                 ·
                  rintro w' ⟨s0, s1⟩
                  go_simp
                  with_reducible rfl
                 rotate_left
                 ·
                  simp only [Act.put, sq0_, sq1_, sq2_, i64_w, i32_w]
                  rfl
                 refine pure_ (i := 28) (N := some 89) (v := ?_) (a' := ?_) #[true,true,true,true,true,true,true,true,true,true,true,true,true,true,true,true,true,true,true,true,true,true,true,true,true,true,true,true,true,false,false] rfl rfl (any_of HT_.out (by kernel_rfl)) (fun _ _ _ h => h) (Or.inl ⟨by rfl, ?_⟩) ?_ ?_; rotate_left; · (intro w'; go_simp; with_reducible rfl)
                 rotate_left; · (simp only [Act.put, sq0_, sq1_, sq2_, i64_w, i32_w]; rfl)
                 refine pure_ (i := 29) (N := some 90) (v := ?_) (a' := ?_) #[true,true,true,true,true,true,true,true,true,true,true,true,true,true,true,true,true,true,true,true,true,true,true,true,true,true,true,true,true,true,false] rfl rfl (any_of HT_.out (by kernel_rfl)) (fun _ _ _ h => h) (Or.inl ⟨by rfl, ?_⟩) ?_ ?_; rotate_left; · (intro w'; go_simp; with_reducible rfl)
                 rotate_left; · (simp only [Act.put, sq0_, sq1_, sq2_, i64_w, i32_w]; rfl)
                 refine pure_ (i := 30) (N := some 91) (v := ?_) (a' := ?_) #[true,true,true,true,true,true,true,true,true,true,true,true,true,true,true,true,true,true,true,true,true,true,true,true,true,true,true,true,true,true,true] rfl rfl (any_of HT_.out (by kernel_rfl)) (fun _ _ _ h => h) (Or.inl ⟨by rfl, ?_⟩) ?_ ?_; rotate_left; · (intro w'; go_simp; with_reducible rfl)
                 rotate_left; · (simp only [Act.put, sq0_, sq1_, sq2_, i64_w, i32_w]; rfl)
                 refine done_ (done_of HT_.out (by kernel_rfl)) ?_
                 have hcz39_0 : w37.cell? ⟨gb149, 0, none⟩ = some (.int .i64 x150000_1) := (blk_cell BK149.out 0).trans rfl
                 have hcz39_1 : w37.cell? ⟨gb149, 1, none⟩ = some (.int .i64 x150001_1) := (blk_cell BK149.out 1).trans rfl
                 have hcz39_2 : w37.cell? ⟨gb149, 2, none⟩ = some (.string x150002_1) := (blk_cell BK149.out 2).trans rfl
                 have hfz39_0 := blk_frozen BK149.out 0
                 have hfz39_1 := blk_frozen BK149.out 1
                 have hfz39_2 := blk_frozen BK149.out 2
                 try go_wp2
                 go_roundg kj9
                 case measure => have := HK1.out; have := HJ6.out; have := HJ9.out; omega
                 case rel => exact ⟨(x7_1), (true), (wrap64 (x10_1 + 1)), (x11_1), (x150000_1), (wrap64 (x150001_1 + 1)), (x150002_1), (by first | rfl | (simp; done) | (simp [*]; done)), (by first | rfl | (simp; done) | (simp [*]; done)), (by first | rfl | (simp; done) | (simp [*]; done)), H', ⟨by have := HK1.out; have := HJ6.out; have := HJ9.out; omega⟩, ⟨by (with_reducible repeat (first | apply Kd.R_alloc | apply Kd.R_drewN | apply Kd.R_drew)); exact Kd.R_mono (Kd.R_far (p := ⟨gb149, 1, none⟩) (Kd.R_types HO_5.out BK149.out (by decide)) (fun _ hk => hk.2) (.int .i64 (wrap64 (x150001_1 + 1)))) (fun _ hk => trivial)⟩, ⟨by (with_reducible repeat (first | apply Kd.R_alloc | apply Kd.R_drewN | apply Kd.R_drew)); exact Kd.R_mono (Kd.R_far (p := ⟨gb149, 1, none⟩) (Kd.R_mono HO_7.out (fun k_ hk => (⟨hk, hk⟩ : _ ∧ k_ ≠ gb149))) (fun _ hk => hk.2) (.int .i64 (wrap64 (x150001_1 + 1)))) (fun _ hk => hk.1)⟩, ⟨by (with_reducible repeat (first | refine blk_drewN ?_ _ | refine blk_drew ?_ | refine blk_alloc ?_ _)); refine blk_put (cs := #[.int .i64 x150000_1, .int .i64 x150001_1, .string x150002_1]) ?_ 1 _ rfl; (with_reducible repeat (first | refine blk_drewN ?_ _ | refine blk_drew ?_ | refine blk_alloc ?_ _)); exact BK149.out⟩, ⟨by repeat (first | (with_reducible first | exact HB.out | apply below_alloc | apply pw_below_drewN | apply below_drew1 | refine below_set ?_ GE149.out) | exact HB.out)⟩⟩
                ·
                 rw [if_neg c36] at H
                 have c36b0 : decide ((rd t146 (ji30)) ≤ (rd t146 (ji33))) = false := decide_eq_false c36
                 clear c36
                 by_cases c40 : 0 ≤ x11_1
                 ·
                  rw [if_pos c40] at H
                  have c40b0 := eq_true c40
                  try (have c40n := c40; simp only [ByteArray.size_append, ByteArray.size_extract, Nat.min_self, Nat.zero_add] at c40n; (repeat (rw [Nat.min_eq_left] at c40n; rotate_left; (refine Int.toNat_le.2 ?_; exact of_decide_eq_true (by first | (with_reducible assumption) | assumption)))); (try simp only [Nat.sub_zero] at c40n); (first | have c40nf := eq_false (Nat.not_lt.2 c40n) | have c40nf := eq_false (Int.not_lt.2 c40n) | skip); replace c40n := eq_true c40n)
                  have c40b1 : decide (0 ≤ x11_1) = true := decide_eq_true c40
                  clear c40
                  by_cases c41 : x11_1 ≤ (wrap64 (x11_1 + 1))
                  ·
                   rw [if_pos c41] at H
                   have c41b0 := eq_true c41
                   try (have c41n := c41; simp only [ByteArray.size_append, ByteArray.size_extract, Nat.min_self, Nat.zero_add] at c41n; (repeat (rw [Nat.min_eq_left] at c41n; rotate_left; (refine Int.toNat_le.2 ?_; exact of_decide_eq_true (by first | (with_reducible assumption) | assumption)))); (try simp only [Nat.sub_zero] at c41n); (first | have c41nf := eq_false (Nat.not_lt.2 c41n) | have c41nf := eq_false (Int.not_lt.2 c41n) | skip); replace c41n := eq_true c41n)
                   have c41b1 : decide (x11_1 ≤ (wrap64 (x11_1 + 1))) = true := decide_eq_true c41
                   by_cases c42 : (wrap64 (x11_1 + 1)) ≤ (a1.size : Int)
                   ·
                    rw [if_pos c42] at H
                    have c42b0 := eq_true c42
                    try (have c42n := c42; simp only [ByteArray.size_append, ByteArray.size_extract, Nat.min_self, Nat.zero_add] at c42n; (repeat (rw [Nat.min_eq_left] at c42n; rotate_left; (refine Int.toNat_le.2 ?_; exact of_decide_eq_true (by first | (with_reducible assumption) | assumption)))); (try simp only [Nat.sub_zero] at c42n); (first | have c42nf := eq_false (Nat.not_lt.2 c42n) | have c42nf := eq_false (Int.not_lt.2 c42n) | skip); replace c42n := eq_true c42n)
                    have c42b1 : decide ((wrap64 (x11_1 + 1)) ≤ (a1.size : Int)) = true := decide_eq_true c42
                    by_cases c43 : x150002_1.size + (a1.extract (x11_1 : Int).toNat ((wrap64 (x11_1 + 1)) : Int).toNat).size ≤ 9223372036854775807
                    ·
                     rw [if_pos c43] at H
                     have c43b0 := eq_true c43
                     try (have c43n := c43; simp only [ByteArray.size_append, ByteArray.size_extract, Nat.min_self, Nat.zero_add] at c43n; (repeat (rw [Nat.min_eq_left] at c43n; rotate_left; (refine Int.toNat_le.2 ?_; exact of_decide_eq_true (by first | (with_reducible assumption) | assumption)))); (try simp only [Nat.sub_zero] at c43n); (first | have c43nf := eq_false (Nat.not_lt.2 c43n) | have c43nf := eq_false (Int.not_lt.2 c43n) | skip); replace c43n := eq_true c43n)
                     have c43b1 : decide (x150002_1.size + (a1.extract (x11_1 : Int).toNat ((wrap64 (x11_1 + 1)) : Int).toNat).size ≤ 9223372036854775807) = true := decide_eq_true c43
                     try (have c43b1z := c43b1; simp only [ByteArray.size_append, ByteArray.size_extract, Nat.min_self, Nat.zero_add] at c43b1z; (repeat (rw [Nat.min_eq_left] at c43b1z; rotate_left; (refine Int.toNat_le.2 ?_; exact of_decide_eq_true (by first | (with_reducible assumption) | assumption)))); (try simp only [Nat.sub_zero] at c43b1z))
                     try have c43b2 : (9223372036854775807 < x150002_1.size + (a1.extract (x11_1 : Int).toNat ((wrap64 (x11_1 + 1)) : Int).toNat).size) = False := eq_false (Nat.not_lt.2 c43)
                     have H' := Aside0.mk H
                     clear H
                     try go_wp2
                     have n0_ := Aside0.mk (Kd.R_drew HO_5.out)
                     have n1_ := Aside0.mk (Kd.R_drew HO_7.out)
                     have n2_ := Aside0.mk (blk_drew BK149.out)
                     have n3_ := Aside0.mk (below_drew1 HB.out)
                     clear HO_5
                     clear HO_7
                     clear BK149
                     clear HB
                     have HO_5 := n0_
                     have HO_7 := n1_
                     have BK149 := n2_
                     have HB := n3_
                     clear n0_ n1_ n2_ n3_
                     obtain ⟨Ao45, co45, eo45⟩ := Kd.R_slice HO_5.out
                     (first | subst eo45 | (injection eo45 with f1_ f2_ f3_; have f4_ := f1_.symm; have f5_ := f3_.symm; clear f1_ f2_ f3_; subst f4_; subst f5_))
                     have p156 : 0 ≤ ((ji30) : Int) := of_decide_eq_true (by first | (with_reducible assumption) | assumption)
                     have q156 : (ji30) < (t146.length : Int) := of_decide_eq_true (by first | (with_reducible assumption) | assumption)
                     obtain ⟨ad156, e156, hx156_0⟩ := Kd.at_int (Kd.R_reads' HO_5.out).2.2 (ji30) p156 q156
                     cases e156
                     replace p156 := eq_true p156
                     replace q156 := eq_true q156
                     have p157 : 0 ≤ ((ji33) : Int) := of_decide_eq_true (by first | (with_reducible assumption) | assumption)
                     have q157 : (ji33) < (t146.length : Int) := of_decide_eq_true (by first | (with_reducible assumption) | assumption)
                     obtain ⟨ad157, e157, hx157_0⟩ := Kd.at_int (Kd.R_reads' HO_5.out).2.2 (ji33) p157 q157
                     obtain rfl : ad156 = ad157 := (by injection e157)
                     replace p157 := eq_true p157
                     replace q157 := eq_true q157
                     refine start_ (n := 31) (S := fun w' => w'.cell? (ad156.add ((ji30)).toNat) = some (.int .i64 (rd t146 (ji30))) ∧ w'.cell? (ad156.add ((ji33)).toNat) = some (.int .i64 (rd t146 (ji33)))) (ds := []) #[false,false,false,false,false,false,false,false,false,false,false,false,false,false,false,false,false,false,false,false,false,false,false,false,false,false,false,false,false,false,false] (by kernel_rfl) rfl rfl ⟨hx156_0, hx157_0⟩ (fun hHeld => ?_); refine with_tabW emendateref06_Diff.tab16 emendateref06_Diff.bits16 (fun HT_ HW_ => ?_)
                     generalize wc.drew = w44 at HO_5 HO_7 BK149 HB hx156_0 hx157_0 hHeld ⊢
                     refine pure_ (i := 0) (N := some 61) (v := ?_) (a' := ?_) #[true,false,false,false,false,false,false,false,false,false,false,false,false,false,false,false,false,false,false,false,false,false,false,false,false,false,false,false,false,false,false] rfl rfl (any_of HT_.out (by kernel_rfl)) (fun _ _ _ h => h) (Or.inl ⟨by rfl, ?_⟩) ?_ ?_; rotate_left; · (intro w'; go_simp; with_reducible rfl)
                     rotate_left; · (simp only [Act.put, sq0_, sq1_, sq2_, i64_w, i32_w]; rfl)
                     refine pure_ (i := 1) (N := some 62) (v := ?_) (a' := ?_) #[true,true,false,false,false,false,false,false,false,false,false,false,false,false,false,false,false,false,false,false,false,false,false,false,false,false,false,false,false,false,false] rfl rfl (any_of HT_.out (by kernel_rfl)) (fun _ _ _ h => h) (Or.inl ⟨by rfl, ?_⟩) ?_ ?_; rotate_left; · (intro w'; go_simp; with_reducible rfl)
                     rotate_left; · (simp only [Act.put, sq0_, sq1_, sq2_, i64_w, i32_w]; rfl)
                     refine pure_ (i := 2) (N := some 63) (v := ?_) (a' := ?_) #[true,true,true,false,false,false,false,false,false,false,false,false,false,false,false,false,false,false,false,false,false,false,false,false,false,false,false,false,false,false,false] rfl rfl (any_of HT_.out (by kernel_rfl)) (fun _ _ _ h => h) (Or.inl ⟨by rfl, ?_⟩) ?_ ?_; rotate_left; · (intro w'; go_simp; with_reducible rfl)
                     rotate_left; · (simp only [Act.put, sq0_, sq1_, sq2_, i64_w, i32_w]; rfl)
                     refine pure_ (i := 3) (N := some 64) (v := ?_) (a' := ?_) #[true,true,true,true,false,false,false,false,false,false,false,false,false,false,false,false,false,false,false,false,false,false,false,false,false,false,false,false,false,false,false] rfl rfl (any_of HT_.out (by kernel_rfl)) (fun _ _ _ h => h) (Or.inl ⟨by rfl, ?_⟩) ?_ ?_; rotate_left; · (intro w'; go_simp; with_reducible rfl)
                     rotate_left; · (simp only [Act.put, sq0_, sq1_, sq2_, i64_w, i32_w]; rfl)
                     refine pure_ (i := 4) (N := some 65) (v := ?_) (a' := ?_) #[true,true,true,true,true,false,false,false,false,false,false,false,false,false,false,false,false,false,false,false,false,false,false,false,false,false,false,false,false,false,false] rfl rfl (any_of HT_.out (by kernel_rfl)) (fun _ _ _ h => h) (Or.inl ⟨by rfl, ?_⟩) ?_ ?_; rotate_left; · (intro w'; go_simp; with_reducible rfl)
                     rotate_left; · (simp only [Act.put, sq0_, sq1_, sq2_, i64_w, i32_w]; rfl)
                     refine pure_ (i := 5) (N := some 66) (v := ?_) (a' := ?_) #[true,true,true,true,true,true,false,false,false,false,false,false,false,false,false,false,false,false,false,false,false,false,false,false,false,false,false,false,false,false,false] rfl rfl (any_of HT_.out (by kernel_rfl)) (fun _ _ _ h => h) (Or.inl ⟨by rfl, ?_⟩) ?_ ?_; rotate_left; · (intro w'; go_simp; with_reducible rfl)
                     rotate_left; · (simp only [Act.put, sq0_, sq1_, sq2_, i64_w, i32_w]; rfl)
                     refine pure_ (i := 6) (N := some 67) (v := ?_) (a' := ?_) #[true,true,true,true,true,true,true,false,false,false,false,false,false,false,false,false,false,false,false,false,false,false,false,false,false,false,false,false,false,false,false] rfl rfl (any_of HT_.out (by kernel_rfl)) (fun _ _ _ h => h) (Or.inl ⟨by rfl, ?_⟩) ?_ ?_; rotate_left; · (intro w'; go_simp; with_reducible rfl)
                     rotate_left; · (simp only [Act.put, sq0_, sq1_, sq2_, i64_w, i32_w]; rfl)
                     refine pure_ (i := 7) (N := some 68) (v := ?_) (a' := ?_) #[true,true,true,true,true,true,true,true,false,false,false,false,false,false,false,false,false,false,false,false,false,false,false,false,false,false,false,false,false,false,false] rfl rfl (any_of HT_.out (by kernel_rfl)) (fun _ _ _ h => h) (Or.inl ⟨by rfl, ?_⟩) ?_ ?_; rotate_left; · (intro w'; go_simp; with_reducible rfl)
                     rotate_left; · (simp only [Act.put, sq0_, sq1_, sq2_, i64_w, i32_w]; rfl)
                     refine pure_ (i := 8) (N := some 69) (v := ?_) (a' := ?_) #[true,true,true,true,true,true,true,true,true,false,false,false,false,false,false,false,false,false,false,false,false,false,false,false,false,false,false,false,false,false,false] rfl rfl (any_of HT_.out (by kernel_rfl)) (fun _ _ _ h => h) (Or.inl ⟨by rfl, ?_⟩) ?_ ?_; rotate_left; · (intro w'; go_simp; with_reducible rfl)
                     rotate_left; · (simp only [Act.put, sq0_, sq1_, sq2_, i64_w, i32_w]; rfl)
                     refine pure_ (i := 9) (N := some 70) (v := ?_) (a' := ?_) #[true,true,true,true,true,true,true,true,true,true,false,false,false,false,false,false,false,false,false,false,false,false,false,false,false,false,false,false,false,false,false] rfl rfl (any_of HT_.out (by kernel_rfl)) (fun _ _ _ h => h) (Or.inl ⟨by rfl, ?_⟩) ?_ ?_; rotate_left; · (intro w'; go_simp; with_reducible rfl)
                     rotate_left; · (simp only [Act.put, sq0_, sq1_, sq2_, i64_w, i32_w]; rfl)
                     refine pure_ (i := 10) (N := some 71) (v := ?_) (a' := ?_) #[true,true,true,true,true,true,true,true,true,true,true,false,false,false,false,false,false,false,false,false,false,false,false,false,false,false,false,false,false,false,false] rfl rfl (any_of HT_.out (by kernel_rfl)) (fun _ _ _ h => h) (Or.inl ⟨by rfl, ?_⟩) ?_ ?_; rotate_left; · (intro w'; go_simp; with_reducible rfl)
                     rotate_left; · (simp only [Act.put, sq0_, sq1_, sq2_, i64_w, i32_w]; rfl)
                     refine pure_ (i := 11) (N := some 72) (v := ?_) (a' := ?_) #[true,true,true,true,true,true,true,true,true,true,true,true,false,false,false,false,false,false,false,false,false,false,false,false,false,false,false,false,false,false,false] rfl rfl (any_of HT_.out (by kernel_rfl)) (fun _ _ _ h => h) (Or.inl ⟨by rfl, ?_⟩) ?_ ?_; rotate_left; · (intro w'; go_simp; with_reducible rfl)
                     rotate_left; · (simp only [Act.put, sq0_, sq1_, sq2_, i64_w, i32_w]; rfl)
                     refine pure_ (i := 12) (N := some 73) (v := ?_) (a' := ?_) #[true,true,true,true,true,true,true,true,true,true,true,true,true,false,false,false,false,false,false,false,false,false,false,false,false,false,false,false,false,false,false] rfl rfl (any_of HT_.out (by kernel_rfl)) (fun _ _ _ h => h) (Or.inl ⟨by rfl, ?_⟩) ?_ ?_; rotate_left; · (intro w'; go_simp; with_reducible rfl)
                     rotate_left; · (simp only [Act.put, sq0_, sq1_, sq2_, i64_w, i32_w]; rfl)
                     refine pure_ (i := 13) (N := some 74) (v := ?_) (a' := ?_) #[true,true,true,true,true,true,true,true,true,true,true,true,true,true,false,false,false,false,false,false,false,false,false,false,false,false,false,false,false,false,false] rfl rfl (any_of HT_.out (by kernel_rfl)) (fun _ _ _ h => h) (Or.inl ⟨by rfl, ?_⟩) ?_ ?_; rotate_left; · (intro w'; go_simp; with_reducible rfl)
                     rotate_left; · (simp only [Act.put, sq0_, sq1_, sq2_, i64_w, i32_w]; rfl)
                     refine pure_ (i := 14) (N := some 75) (v := ?_) (a' := ?_) #[true,true,true,true,true,true,true,true,true,true,true,true,true,true,true,false,false,false,false,false,false,false,false,false,false,false,false,false,false,false,false] rfl rfl (any_of HT_.out (by kernel_rfl)) (fun _ _ _ h => h) (Or.inl ⟨by rfl, ?_⟩) ?_ ?_; rotate_left; · (intro w'; go_simp; with_reducible rfl)
                     rotate_left; · (simp only [Act.put, sq0_, sq1_, sq2_, i64_w, i32_w]; rfl)
                     refine pure_ (i := 15) (N := some 76) (v := ?_) (a' := ?_) #[true,true,true,true,true,true,true,true,true,true,true,true,true,true,true,true,false,false,false,false,false,false,false,false,false,false,false,false,false,false,false] rfl rfl (any_of HT_.out (by kernel_rfl)) (fun _ _ _ h => h) (Or.inl ⟨by rfl, ?_⟩) ?_ ?_; rotate_left; · (intro w'; go_simp; with_reducible rfl)
                     rotate_left; · (simp only [Act.put, sq0_, sq1_, sq2_, i64_w, i32_w]; rfl)
                     refine pure_ (i := 16) (N := some 77) (v := ?_) (a' := ?_) #[true,true,true,true,true,true,true,true,true,true,true,true,true,true,true,true,true,false,false,false,false,false,false,false,false,false,false,false,false,false,false] rfl rfl (any_of HT_.out (by kernel_rfl)) (fun _ _ _ h => h) (Or.inl ⟨by rfl, ?_⟩) ?_ ?_; rotate_left; · (intro w'; go_simp; with_reducible rfl)
                     rotate_left; · (simp only [Act.put, sq0_, sq1_, sq2_, i64_w, i32_w]; rfl)
                     refine pure_ (i := 17) (N := some 78) (v := ?_) (a' := ?_) #[true,true,true,true,true,true,true,true,true,true,true,true,true,true,true,true,true,true,false,false,false,false,false,false,false,false,false,false,false,false,false] rfl rfl (any_of HT_.out (by kernel_rfl)) (fun _ _ _ h => h) (Or.inl ⟨by rfl, ?_⟩) ?_ ?_; rotate_left; · (intro w'; go_simp; with_reducible rfl)
                     rotate_left; · (simp only [Act.put, sq0_, sq1_, sq2_, i64_w, i32_w]; rfl)
                     refine pure_ (i := 19) (N := some 80) (v := ?_) (a' := ?_) #[true,true,true,true,true,true,true,true,true,true,true,true,true,true,true,true,true,true,false,true,false,false,false,false,false,false,false,false,false,false,false] rfl rfl (any_of HT_.out (by kernel_rfl)) (fun _ _ _ h => h) (Or.inl ⟨by rfl, ?_⟩) ?_ ?_; rotate_left; · (intro w'; go_simp; with_reducible rfl)
                     rotate_left; · (simp only [Act.put, sq0_, sq1_, sq2_, i64_w, i32_w]; rfl)
                     refine pure_ (i := 20) (N := some 81) (v := ?_) (a' := ?_) #[true,true,true,true,true,true,true,true,true,true,true,true,true,true,true,true,true,true,false,true,true,false,false,false,false,false,false,false,false,false,false] rfl rfl (any_of HT_.out (by kernel_rfl)) (fun _ _ _ h => h) (Or.inl ⟨by rfl, ?_⟩) ?_ ?_; rotate_left; · (intro w'; go_simp; with_reducible rfl)
                     rotate_left; · (simp only [Act.put, sq0_, sq1_, sq2_, i64_w, i32_w]; rfl)
                     refine pure_ (i := 21) (N := some 82) (v := ?_) (a' := ?_) #[true,true,true,true,true,true,true,true,true,true,true,true,true,true,true,true,true,true,false,true,true,true,false,false,false,false,false,false,false,false,false] rfl rfl (any_of HT_.out (by kernel_rfl)) (fun _ _ _ h => h) (Or.inl ⟨by rfl, ?_⟩) ?_ ?_; rotate_left; · (intro w'; go_simp; with_reducible rfl)
                     rotate_left; · (simp only [Act.put, sq0_, sq1_, sq2_, i64_w, i32_w]; rfl)
                     refine pure_ (i := 22) (N := some 83) (v := ?_) (a' := ?_) #[true,true,true,true,true,true,true,true,true,true,true,true,true,true,true,true,true,true,false,true,true,true,true,false,false,false,false,false,false,false,false] rfl rfl (any_of HT_.out (by kernel_rfl)) (fun _ _ _ h => h) (Or.inl ⟨by rfl, ?_⟩) ?_ ?_; rotate_left; · (intro w'; go_simp; with_reducible rfl)
                     rotate_left; · (simp only [Act.put, sq0_, sq1_, sq2_, i64_w, i32_w]; rfl)
                     refine pure_ (i := 23) (N := some 84) (v := ?_) (a' := ?_) #[true,true,true,true,true,true,true,true,true,true,true,true,true,true,true,true,true,true,false,true,true,true,true,true,false,false,false,false,false,false,false] rfl rfl (any_of HT_.out (by kernel_rfl)) (fun _ _ _ h => h) (Or.inl ⟨by rfl, ?_⟩) ?_ ?_; rotate_left; · (intro w'; go_simp; with_reducible rfl)
                     rotate_left; · (simp only [Act.put, sq0_, sq1_, sq2_, i64_w, i32_w]; rfl)
                     refine pure_ (i := 24) (N := some 85) (v := ?_) (a' := ?_) #[true,true,true,true,true,true,true,true,true,true,true,true,true,true,true,true,true,true,false,true,true,true,true,true,true,false,false,false,false,false,false] rfl rfl (any_of HT_.out (by kernel_rfl)) (fun _ _ _ h => h) (Or.inl ⟨by rfl, ?_⟩) ?_ ?_; rotate_left; · (intro w'; go_simp; with_reducible rfl)
                     rotate_left; · (simp only [Act.put, sq0_, sq1_, sq2_, i64_w, i32_w]; rfl)
                     refine pure_ (i := 25) (N := some 86) (v := ?_) (a' := ?_) #[true,true,true,true,true,true,true,true,true,true,true,true,true,true,true,true,true,true,false,true,true,true,true,true,true,true,false,false,false,false,false] rfl rfl (any_of HT_.out (by kernel_rfl)) (fun _ _ _ h => h) (Or.inl ⟨by rfl, ?_⟩) ?_ ?_; rotate_left; · (intro w'; go_simp; with_reducible rfl)
                     rotate_left; · (simp only [Act.put, sq0_, sq1_, sq2_, i64_w, i32_w]; rfl)
                     refine pure_ (i := 26) (N := some 87) (v := ?_) (a' := ?_) #[true,true,true,true,true,true,true,true,true,true,true,true,true,true,true,true,true,true,false,true,true,true,true,true,true,true,true,false,false,false,false] rfl rfl (any_of HT_.out (by kernel_rfl)) (fun _ _ _ h => h) (Or.inl ⟨by rfl, ?_⟩) ?_ ?_; rotate_left; · (intro w'; go_simp; with_reducible rfl)
                     rotate_left; · (simp only [Act.put, sq0_, sq1_, sq2_, i64_w, i32_w]; rfl)
                     refine take_ (i := 18) (N := some 79) (v := ?_) (a' := ?_) #[true,true,true,true,true,true,true,true,true,true,true,true,true,true,true,true,true,true,true,true,true,true,true,true,true,true,true,false,false,false,false] rfl rfl (take_ofW HT_.out HW_.out (by kernel_rfl)) (fun _ _ _ h => h) (Or.inl ⟨by rfl, ?_⟩) hHeld ?_ ?_
                     rotate_left
                     ·
                      rintro w' ⟨s0, s1⟩
                      go_simp
                      with_reducible rfl
                     rotate_left
                     ·
                      simp only [Act.put, sq0_, sq1_, sq2_, i64_w, i32_w]
                      rfl
                     refine take_ (i := 27) (N := some 88) (v := ?_) (a' := ?_) #[true,true,true,true,true,true,true,true,true,true,true,true,true,true,true,true,true,true,true,true,true,true,true,true,true,true,true,true,false,false,false] rfl rfl (take_ofW HT_.out HW_.out (by kernel_rfl)) (fun _ _ _ h => h) (Or.inl ⟨by rfl, ?_⟩) hHeld ?_ ?_
                     rotate_left
                     ·
                      rintro w' ⟨s0, s1⟩
                      go_simp
                      with_reducible rfl
                     rotate_left
                     ·
                      simp only [Act.put, sq0_, sq1_, sq2_, i64_w, i32_w]
                      rfl
                     refine pure_ (i := 28) (N := some 89) (v := ?_) (a' := ?_) #[true,true,true,true,true,true,true,true,true,true,true,true,true,true,true,true,true,true,true,true,true,true,true,true,true,true,true,true,true,false,false] rfl rfl (any_of HT_.out (by kernel_rfl)) (fun _ _ _ h => h) (Or.inl ⟨by rfl, ?_⟩) ?_ ?_; rotate_left; · (intro w'; go_simp; with_reducible rfl)
                     rotate_left; · (simp only [Act.put, sq0_, sq1_, sq2_, i64_w, i32_w]; rfl)
                     refine pure_ (i := 29) (N := some 90) (v := ?_) (a' := ?_) #[true,true,true,true,true,true,true,true,true,true,true,true,true,true,true,true,true,true,true,true,true,true,true,true,true,true,true,true,true,true,false] rfl rfl (any_of HT_.out (by kernel_rfl)) (fun _ _ _ h => h) (Or.inl ⟨by rfl, ?_⟩) ?_ ?_; rotate_left; · (intro w'; go_simp; with_reducible rfl)
                     rotate_left; · (simp only [Act.put, sq0_, sq1_, sq2_, i64_w, i32_w]; rfl)
                     refine pure_ (i := 30) (N := some 91) (v := ?_) (a' := ?_) #[true,true,true,true,true,true,true,true,true,true,true,true,true,true,true,true,true,true,true,true,true,true,true,true,true,true,true,true,true,true,true] rfl rfl (any_of HT_.out (by kernel_rfl)) (fun _ _ _ h => h) (Or.inl ⟨by rfl, ?_⟩) ?_ ?_; rotate_left; · (intro w'; go_simp; with_reducible rfl)
                     rotate_left; · (simp only [Act.put, sq0_, sq1_, sq2_, i64_w, i32_w]; rfl)
                     refine done_ (done_of HT_.out (by kernel_rfl)) ?_
                     try go_wp2
                     have n0_ := Aside0.mk (Kd.R_drew HO_5.out)
                     have n1_ := Aside0.mk (Kd.R_drew HO_7.out)
                     have n2_ := Aside0.mk (blk_drew BK149.out)
                     have n3_ := Aside0.mk (below_drew1 HB.out)
                     clear HO_5
                     clear HO_7
                     clear BK149
                     clear HB
                     have HO_5 := n0_
                     have HO_7 := n1_
                     have BK149 := n2_
                     have HB := n3_
                     clear n0_ n1_ n2_ n3_
                     refine start_ (n := 10) (S := fun w' => w'.cell? ⟨gb149, 0, none⟩ = some (.int .i64 x150000_1) ∧ w'.cell? ⟨gb149, 1, none⟩ = some (.int .i64 x150001_1) ∧ w'.cell? ⟨gb149, 2, none⟩ = some (.string x150002_1)) (ds := [9]) #[false,false,false,false,false,false,false,false,false,false] (by kernel_rfl) rfl rfl ⟨(blk_cell BK149.out 0).trans rfl, (blk_cell BK149.out 1).trans rfl, (blk_cell BK149.out 2).trans rfl⟩ (fun hHeld => ?_); refine with_tabW emendateref06_Diff.tab19 emendateref06_Diff.bits19 (fun HT_ HW_ => ?_)
                     generalize w44.drew = w46 at HO_5 HO_7 BK149 HB hHeld ⊢
                     refine pure_ (i := 0) (N := some 98) (v := ?_) (a' := ?_) #[true,false,false,false,false,false,false,false,false,false] rfl rfl (any_of HT_.out (by kernel_rfl)) (fun _ _ _ h => h) (Or.inl ⟨by rfl, ?_⟩) ?_ ?_; rotate_left; · (intro w'; go_simp; with_reducible rfl)
                     rotate_left; · (simp only [Act.put, sq0_, sq1_, sq2_, i64_w, i32_w]; rfl)
                     refine pure_ (i := 2) (N := some 100) (v := ?_) (a' := ?_) #[true,false,true,false,false,false,false,false,false,false] rfl rfl (any_of HT_.out (by kernel_rfl)) (fun _ _ _ h => h) (Or.inl ⟨by rfl, ?_⟩) ?_ ?_; rotate_left; · (intro w'; go_simp; with_reducible rfl)
                     rotate_left; · (simp only [Act.put, sq0_, sq1_, sq2_, i64_w, i32_w]; rfl)
                     refine pure_ (i := 3) (N := some 101) (v := ?_) (a' := ?_) #[true,false,true,true,false,false,false,false,false,false] rfl rfl (any_of HT_.out (by kernel_rfl)) (fun _ _ _ h => h) (Or.inl ⟨by rfl, ?_⟩) ?_ ?_; rotate_left; · (intro w'; go_simp; with_reducible rfl)
                     rotate_left; · (simp only [Act.put, sq0_, sq1_, sq2_, i64_w, i32_w]; rfl)
                     refine pure_ (i := 4) (N := some 102) (v := ?_) (a' := ?_) #[true,false,true,true,true,false,false,false,false,false] rfl rfl (any_of HT_.out (by kernel_rfl)) (fun _ _ _ h => h) (Or.inl ⟨by rfl, ?_⟩) ?_ ?_; rotate_left; · (intro w'; go_simp; with_reducible rfl)
                     rotate_left; · (simp only [Act.put, sq0_, sq1_, sq2_, i64_w, i32_w]; rfl)
                     refine pure_ (i := 5) (N := some 103) (v := ?_) (a' := ?_) #[true,false,true,true,true,true,false,false,false,false] rfl rfl (any_of HT_.out (by kernel_rfl)) (fun _ _ _ h => h) (Or.inl ⟨by rfl, ?_⟩) ?_ ?_; rotate_left; · (intro w'; go_simp; with_reducible rfl)
                     rotate_left; · (simp only [Act.put, sq0_, sq1_, sq2_, i64_w, i32_w]; rfl)
                     refine pure_ (i := 6) (N := some 104) (v := ?_) (a' := ?_) #[true,false,true,true,true,true,true,false,false,false] rfl rfl (any_of HT_.out (by kernel_rfl)) (fun _ _ _ h => h) (Or.inl ⟨by rfl, ?_⟩) ?_ ?_; rotate_left; · (intro w'; go_simp; with_reducible rfl)
                     rotate_left; · (simp only [Act.put, sq0_, sq1_, sq2_, i64_w, i32_w]; rfl)
                     refine take_ (i := 1) (N := some 99) (v := ?_) (a' := ?_) #[true,true,true,true,true,true,true,false,false,false] rfl rfl (take_ofW HT_.out HW_.out (by kernel_rfl)) (fun _ _ _ h => h) (Or.inl ⟨by rfl, ?_⟩) hHeld ?_ ?_
                     rotate_left
                     ·
                      rintro w' ⟨s0, s1, s2⟩
                      go_simp
                      with_reducible rfl
                     rotate_left
                     ·
                      simp only [Act.put, sq0_, sq1_, sq2_, i64_w, i32_w]
                      rfl
                     refine pure_ (i := 7) (N := some 105) (v := ?_) (a' := ?_) #[true,true,true,true,true,true,true,true,false,false] rfl rfl (any_of HT_.out (by kernel_rfl)) (fun _ _ _ h => h) (Or.inl ⟨by rfl, ?_⟩) ?_ ?_; rotate_left; · (intro w'; go_simp; with_reducible rfl)
                     rotate_left; · (simp only [Act.put, sq0_, sq1_, sq2_, i64_w, i32_w]; rfl)
                     refine pure_ (i := 8) (N := some 106) (v := ?_) (a' := ?_) #[true,true,true,true,true,true,true,true,true,false] rfl rfl (any_of HT_.out (by kernel_rfl)) (fun _ _ _ h => h) (Or.inl ⟨by rfl, ?_⟩) ?_ ?_; rotate_left; · (intro w'; go_simp; with_reducible rfl)
                     rotate_left; · (simp only [Act.put, sq0_, sq1_, sq2_, i64_w, i32_w]; rfl)
                     refine last_ (i := 9) (N := none) #[true,true,true,true,true,true,true,true,true,true] rfl rfl (one_of HT_.out (by kernel_rfl)) (by decide) (fun K hK => ?_)
                     have hs47 : w46.cell? ⟨gb149, 2, none⟩ = some (.string x150002_1) := (blk_cell BK149.out 2).trans rfl
                     have hfs47 := blk_frozen BK149.out 2
                     refine skip_ (w1 := ?_) (by rfl) rfl ?_ ?_
                     rotate_left
                     ·
                      go_simp
                      rfl
                     refine hK.out _ _ ?_
                     clear hK K
                     refine done_ (done_of HT_.out (by kernel_rfl)) ?_
                     try go_wp2
                     go_roundg kj9
                     case measure => have := HK1.out; have := HJ6.out; have := HJ9.out; omega
                     case rel => exact ⟨(x7_1), (true), (x10_1), (wrap64 (x11_1 + 1)), (x150000_1), (x150001_1), (x150002_1 ++ (a1.extract (x11_1 : Int).toNat ((wrap64 (x11_1 + 1)) : Int).toNat)), (by first | rfl | (simp; done) | (simp [*]; done)), (by first | rfl | (simp; done) | (simp [*]; done)), (by first | rfl | (simp; done) | (simp [*]; done)), H', ⟨by have := HK1.out; have := HJ6.out; have := HJ9.out; omega⟩, ⟨by (with_reducible repeat (first | apply Kd.R_alloc | apply Kd.R_drewN | apply Kd.R_drew)); exact Kd.R_mono (Kd.R_far (p := ⟨gb149, 2, none⟩) (Kd.R_types HO_5.out BK149.out (by decide)) (fun _ hk => hk.2) (.string (x150002_1 ++ (a1.extract (x11_1 : Int).toNat ((wrap64 (x11_1 + 1)) : Int).toNat)))) (fun _ hk => trivial)⟩, ⟨by (with_reducible repeat (first | apply Kd.R_alloc | apply Kd.R_drewN | apply Kd.R_drew)); exact Kd.R_mono (Kd.R_far (p := ⟨gb149, 2, none⟩) (Kd.R_mono HO_7.out (fun k_ hk => (⟨hk, hk⟩ : _ ∧ k_ ≠ gb149))) (fun _ hk => hk.2) (.string (x150002_1 ++ (a1.extract (x11_1 : Int).toNat ((wrap64 (x11_1 + 1)) : Int).toNat)))) (fun _ hk => hk.1)⟩, ⟨by (with_reducible repeat (first | refine blk_drewN ?_ _ | refine blk_drew ?_ | refine blk_alloc ?_ _)); refine blk_put (cs := #[.int .i64 x150000_1, .int .i64 x150001_1, .string x150002_1]) ?_ 2 _ rfl; (with_reducible repeat (first | refine blk_drewN ?_ _ | refine blk_drew ?_ | refine blk_alloc ?_ _)); exact BK149.out⟩, ⟨by repeat (first | (with_reducible first | exact HB.out | apply below_alloc | apply pw_below_drewN | apply below_drew1 | refine below_set ?_ GE149.out) | exact HB.out)⟩⟩
                    ·
                     rw [if_neg c43] at H
                     exact absurd H (by simp)
                   ·
                    rw [if_neg c42] at H
                    exact absurd H (by simp)
                  ·
                   rw [if_neg c41] at H
                   exact absurd H (by simp)
                 ·
                  rw [if_neg c40] at H
                  exact absurd H (by simp)
               ·
                rw [if_neg c35] at H
                exact absurd H (by simp)
              ·
               rw [if_neg c34] at H
               exact absurd H (by simp)
             ·
              rw [if_neg c32] at H
              exact absurd H (by simp)
            ·
             rw [if_neg c31] at H
             exact absurd H (by simp)
           ·
            rw [if_neg c29] at H
            have c29b0 : decide (x10_1 < (a0.size : Int)) = false := decide_eq_false c29
            clear c29
            by_cases c48 : 0 ≤ x11_1
            ·
             rw [if_pos c48] at H
             have c48b0 := eq_true c48
             try (have c48n := c48; simp only [ByteArray.size_append, ByteArray.size_extract, Nat.min_self, Nat.zero_add] at c48n; (repeat (rw [Nat.min_eq_left] at c48n; rotate_left; (refine Int.toNat_le.2 ?_; exact of_decide_eq_true (by first | (with_reducible assumption) | assumption)))); (try simp only [Nat.sub_zero] at c48n); (first | have c48nf := eq_false (Nat.not_lt.2 c48n) | have c48nf := eq_false (Int.not_lt.2 c48n) | skip); replace c48n := eq_true c48n)
             have c48b1 : decide (0 ≤ x11_1) = true := decide_eq_true c48
             clear c48
             by_cases c49 : x11_1 ≤ (wrap64 (x11_1 + 1))
             ·
              rw [if_pos c49] at H
              have c49b0 := eq_true c49
              try (have c49n := c49; simp only [ByteArray.size_append, ByteArray.size_extract, Nat.min_self, Nat.zero_add] at c49n; (repeat (rw [Nat.min_eq_left] at c49n; rotate_left; (refine Int.toNat_le.2 ?_; exact of_decide_eq_true (by first | (with_reducible assumption) | assumption)))); (try simp only [Nat.sub_zero] at c49n); (first | have c49nf := eq_false (Nat.not_lt.2 c49n) | have c49nf := eq_false (Int.not_lt.2 c49n) | skip); replace c49n := eq_true c49n)
              have c49b1 : decide (x11_1 ≤ (wrap64 (x11_1 + 1))) = true := decide_eq_true c49
              by_cases c50 : (wrap64 (x11_1 + 1)) ≤ (a1.size : Int)
              ·
               rw [if_pos c50] at H
               have c50b0 := eq_true c50
               try (have c50n := c50; simp only [ByteArray.size_append, ByteArray.size_extract, Nat.min_self, Nat.zero_add] at c50n; (repeat (rw [Nat.min_eq_left] at c50n; rotate_left; (refine Int.toNat_le.2 ?_; exact of_decide_eq_true (by first | (with_reducible assumption) | assumption)))); (try simp only [Nat.sub_zero] at c50n); (first | have c50nf := eq_false (Nat.not_lt.2 c50n) | have c50nf := eq_false (Int.not_lt.2 c50n) | skip); replace c50n := eq_true c50n)
               have c50b1 : decide ((wrap64 (x11_1 + 1)) ≤ (a1.size : Int)) = true := decide_eq_true c50
               by_cases c51 : x150002_1.size + (a1.extract (x11_1 : Int).toNat ((wrap64 (x11_1 + 1)) : Int).toNat).size ≤ 9223372036854775807
               ·
                rw [if_pos c51] at H
                have c51b0 := eq_true c51
                try (have c51n := c51; simp only [ByteArray.size_append, ByteArray.size_extract, Nat.min_self, Nat.zero_add] at c51n; (repeat (rw [Nat.min_eq_left] at c51n; rotate_left; (refine Int.toNat_le.2 ?_; exact of_decide_eq_true (by first | (with_reducible assumption) | assumption)))); (try simp only [Nat.sub_zero] at c51n); (first | have c51nf := eq_false (Nat.not_lt.2 c51n) | have c51nf := eq_false (Int.not_lt.2 c51n) | skip); replace c51n := eq_true c51n)
                have c51b1 : decide (x150002_1.size + (a1.extract (x11_1 : Int).toNat ((wrap64 (x11_1 + 1)) : Int).toNat).size ≤ 9223372036854775807) = true := decide_eq_true c51
                try (have c51b1z := c51b1; simp only [ByteArray.size_append, ByteArray.size_extract, Nat.min_self, Nat.zero_add] at c51b1z; (repeat (rw [Nat.min_eq_left] at c51b1z; rotate_left; (refine Int.toNat_le.2 ?_; exact of_decide_eq_true (by first | (with_reducible assumption) | assumption)))); (try simp only [Nat.sub_zero] at c51b1z))
                try have c51b2 : (9223372036854775807 < x150002_1.size + (a1.extract (x11_1 : Int).toNat ((wrap64 (x11_1 + 1)) : Int).toNat).size) = False := eq_false (Nat.not_lt.2 c51)
                have H' := Aside0.mk H
                clear H
                try go_wp2
                have n0_ := Aside0.mk (Kd.R_drew HO_5.out)
                have n1_ := Aside0.mk (Kd.R_drew HO_7.out)
                have n2_ := Aside0.mk (blk_drew BK149.out)
                have n3_ := Aside0.mk (below_drew1 HB.out)
                clear HO_5
                clear HO_7
                clear BK149
                clear HB
                have HO_5 := n0_
                have HO_7 := n1_
                have BK149 := n2_
                have HB := n3_
                clear n0_ n1_ n2_ n3_
                refine start_ (n := 31) (S := fun w' => True) (ds := []) #[false,false,false,false,false,false,false,false,false,false,false,false,false,false,false,false,false,false,false,false,false,false,false,false,false,false,false,false,false,false,false] (by kernel_rfl) rfl rfl trivial (fun hHeld => ?_); refine with_tabW emendateref06_Diff.tab16 emendateref06_Diff.bits16 (fun HT_ HW_ => ?_)
                generalize wc.drew = w52 at HO_5 HO_7 BK149 HB hHeld ⊢
                refine pure_ (i := 0) (N := some 61) (v := ?_) (a' := ?_) #[true,false,false,false,false,false,false,false,false,false,false,false,false,false,false,false,false,false,false,false,false,false,false,false,false,false,false,false,false,false,false] rfl rfl (any_of HT_.out (by kernel_rfl)) (fun _ _ _ h => h) (Or.inl ⟨by rfl, ?_⟩) ?_ ?_; rotate_left; · (intro w'; go_simp; with_reducible rfl)
                rotate_left; · (simp only [Act.put, sq0_, sq1_, sq2_, i64_w, i32_w]; rfl)
                refine pure_ (i := 1) (N := some 62) (v := ?_) (a' := ?_) #[true,true,false,false,false,false,false,false,false,false,false,false,false,false,false,false,false,false,false,false,false,false,false,false,false,false,false,false,false,false,false] rfl rfl (any_of HT_.out (by kernel_rfl)) (fun _ _ _ h => h) (Or.inl ⟨by rfl, ?_⟩) ?_ ?_; rotate_left; · (intro w'; go_simp; with_reducible rfl)
                rotate_left; · (simp only [Act.put, sq0_, sq1_, sq2_, i64_w, i32_w]; rfl)
                refine pure_ (i := 2) (N := some 63) (v := ?_) (a' := ?_) #[true,true,true,false,false,false,false,false,false,false,false,false,false,false,false,false,false,false,false,false,false,false,false,false,false,false,false,false,false,false,false] rfl rfl (any_of HT_.out (by kernel_rfl)) (fun _ _ _ h => h) (Or.inl ⟨by rfl, ?_⟩) ?_ ?_; rotate_left; · (intro w'; go_simp; with_reducible rfl)
                rotate_left; · (simp only [Act.put, sq0_, sq1_, sq2_, i64_w, i32_w]; rfl)
                refine pure_ (i := 3) (N := some 64) (v := ?_) (a' := ?_) #[true,true,true,true,false,false,false,false,false,false,false,false,false,false,false,false,false,false,false,false,false,false,false,false,false,false,false,false,false,false,false] rfl rfl (any_of HT_.out (by kernel_rfl)) (fun _ _ _ h => h) (Or.inl ⟨by rfl, ?_⟩) ?_ ?_; rotate_left; · (intro w'; go_simp; with_reducible rfl)
                rotate_left; · (simp only [Act.put, sq0_, sq1_, sq2_, i64_w, i32_w]; rfl)
                refine pure_ (i := 4) (N := some 65) (v := ?_) (a' := ?_) #[true,true,true,true,true,false,false,false,false,false,false,false,false,false,false,false,false,false,false,false,false,false,false,false,false,false,false,false,false,false,false] rfl rfl (any_of HT_.out (by kernel_rfl)) (fun _ _ _ h => h) (Or.inl ⟨by rfl, ?_⟩) ?_ ?_; rotate_left; · (intro w'; go_simp; with_reducible rfl)
                rotate_left; · (simp only [Act.put, sq0_, sq1_, sq2_, i64_w, i32_w]; rfl)
                refine pure_ (i := 5) (N := some 66) (v := ?_) (a' := ?_) #[true,true,true,true,true,true,false,false,false,false,false,false,false,false,false,false,false,false,false,false,false,false,false,false,false,false,false,false,false,false,false] rfl rfl (any_of HT_.out (by kernel_rfl)) (fun _ _ _ h => h) (Or.inl ⟨by rfl, ?_⟩) ?_ ?_; rotate_left; · (intro w'; go_simp; with_reducible rfl)
                rotate_left; · (simp only [Act.put, sq0_, sq1_, sq2_, i64_w, i32_w]; rfl)
                refine pure_ (i := 6) (N := some 67) (v := ?_) (a' := ?_) #[true,true,true,true,true,true,true,false,false,false,false,false,false,false,false,false,false,false,false,false,false,false,false,false,false,false,false,false,false,false,false] rfl rfl (any_of HT_.out (by kernel_rfl)) (fun _ _ _ h => h) (Or.inl ⟨by rfl, ?_⟩) ?_ ?_; rotate_left; · (intro w'; go_simp; with_reducible rfl)
                rotate_left; · (simp only [Act.put, sq0_, sq1_, sq2_, i64_w, i32_w]; rfl)
                refine pure_ (i := 7) (N := some 68) (v := ?_) (a' := ?_) #[true,true,true,true,true,true,true,true,false,false,false,false,false,false,false,false,false,false,false,false,false,false,false,false,false,false,false,false,false,false,false] rfl rfl (any_of HT_.out (by kernel_rfl)) (fun _ _ _ h => h) (Or.inl ⟨by rfl, ?_⟩) ?_ ?_; rotate_left; · (intro w'; go_simp; with_reducible rfl)
                rotate_left; · (simp only [Act.put, sq0_, sq1_, sq2_, i64_w, i32_w]; rfl)
                refine pure_ (i := 8) (N := some 69) (v := ?_) (a' := ?_) #[true,true,true,true,true,true,true,true,true,false,false,false,false,false,false,false,false,false,false,false,false,false,false,false,false,false,false,false,false,false,false] rfl rfl (any_of HT_.out (by kernel_rfl)) (fun _ _ _ h => h) (Or.inl ⟨by rfl, ?_⟩) ?_ ?_; rotate_left; · (intro w'; go_simp; with_reducible rfl)
                rotate_left; · (simp only [Act.put, sq0_, sq1_, sq2_, i64_w, i32_w]; rfl)
                refine pure_ (i := 9) (N := some 70) (v := ?_) (a' := ?_) #[true,true,true,true,true,true,true,true,true,true,false,false,false,false,false,false,false,false,false,false,false,false,false,false,false,false,false,false,false,false,false] rfl rfl (any_of HT_.out (by kernel_rfl)) (fun _ _ _ h => h) (Or.inl ⟨by rfl, ?_⟩) ?_ ?_; rotate_left; · (intro w'; go_simp; with_reducible rfl)
                rotate_left; · (simp only [Act.put, sq0_, sq1_, sq2_, i64_w, i32_w]; rfl)
                refine pure_ (i := 10) (N := some 71) (v := undef) (a' := ?_) #[true,true,true,true,true,true,true,true,true,true,true,false,false,false,false,false,false,false,false,false,false,false,false,false,false,false,false,false,false,false,false] rfl rfl (any_of HT_.out (by kernel_rfl)) (fun _ _ _ h => h) (Or.inr ⟨by rfl, rfl⟩) ?_ ?_
                rotate_left
                ·
                 simp only [Act.put, sq0_, sq1_, sq2_, i64_w, i32_w]
                 rfl
                refine pure_ (i := 11) (N := some 72) (v := undef) (a' := ?_) #[true,true,true,true,true,true,true,true,true,true,true,true,false,false,false,false,false,false,false,false,false,false,false,false,false,false,false,false,false,false,false] rfl rfl (any_of HT_.out (by kernel_rfl)) (fun _ _ _ h => h) (Or.inr ⟨by rfl, rfl⟩) ?_ ?_
                rotate_left
                ·
                 simp only [Act.put, sq0_, sq1_, sq2_, i64_w, i32_w]
                 rfl
                refine pure_ (i := 12) (N := some 73) (v := undef) (a' := ?_) #[true,true,true,true,true,true,true,true,true,true,true,true,true,false,false,false,false,false,false,false,false,false,false,false,false,false,false,false,false,false,false] rfl rfl (any_of HT_.out (by kernel_rfl)) (fun _ _ _ h => h) (Or.inr ⟨by rfl, rfl⟩) ?_ ?_
                rotate_left
                ·
                 simp only [Act.put, sq0_, sq1_, sq2_, i64_w, i32_w]
                 rfl
                refine pure_ (i := 13) (N := some 74) (v := undef) (a' := ?_) #[true,true,true,true,true,true,true,true,true,true,true,true,true,true,false,false,false,false,false,false,false,false,false,false,false,false,false,false,false,false,false] rfl rfl (any_of HT_.out (by kernel_rfl)) (fun _ _ _ h => h) (Or.inr ⟨by rfl, rfl⟩) ?_ ?_
                rotate_left
                ·
                 simp only [Act.put, sq0_, sq1_, sq2_, i64_w, i32_w]
                 rfl
                refine pure_ (i := 14) (N := some 75) (v := undef) (a' := ?_) #[true,true,true,true,true,true,true,true,true,true,true,true,true,true,true,false,false,false,false,false,false,false,false,false,false,false,false,false,false,false,false] rfl rfl (any_of HT_.out (by kernel_rfl)) (fun _ _ _ h => h) (Or.inr ⟨by rfl, rfl⟩) ?_ ?_
                rotate_left
                ·
                 simp only [Act.put, sq0_, sq1_, sq2_, i64_w, i32_w]
                 rfl
                refine pure_ (i := 15) (N := some 76) (v := undef) (a' := ?_) #[true,true,true,true,true,true,true,true,true,true,true,true,true,true,true,true,false,false,false,false,false,false,false,false,false,false,false,false,false,false,false] rfl rfl (any_of HT_.out (by kernel_rfl)) (fun _ _ _ h => h) (Or.inr ⟨by rfl, rfl⟩) ?_ ?_
                rotate_left
                ·
                 simp only [Act.put, sq0_, sq1_, sq2_, i64_w, i32_w]
                 rfl
                refine pure_ (i := 16) (N := some 77) (v := undef) (a' := ?_) #[true,true,true,true,true,true,true,true,true,true,true,true,true,true,true,true,true,false,false,false,false,false,false,false,false,false,false,false,false,false,false] rfl rfl (any_of HT_.out (by kernel_rfl)) (fun _ _ _ h => h) (Or.inr ⟨by rfl, rfl⟩) ?_ ?_
                rotate_left
                ·
                 simp only [Act.put, sq0_, sq1_, sq2_, i64_w, i32_w]
                 rfl
                refine pure_ (i := 17) (N := some 78) (v := undef) (a' := ?_) #[true,true,true,true,true,true,true,true,true,true,true,true,true,true,true,true,true,true,false,false,false,false,false,false,false,false,false,false,false,false,false] rfl rfl (any_of HT_.out (by kernel_rfl)) (fun _ _ _ h => h) (Or.inr ⟨by rfl, rfl⟩) ?_ ?_
                rotate_left
                ·
                 simp only [Act.put, sq0_, sq1_, sq2_, i64_w, i32_w]
                 rfl
                refine pure_ (i := 18) (N := some 79) (v := undef) (a' := ?_) #[true,true,true,true,true,true,true,true,true,true,true,true,true,true,true,true,true,true,true,false,false,false,false,false,false,false,false,false,false,false,false] rfl rfl (any_of HT_.out (by kernel_rfl)) (fun _ _ _ h => h) (Or.inr ⟨by rfl, rfl⟩) ?_ ?_
                rotate_left
                ·
                 simp only [Act.put, sq0_, sq1_, sq2_, i64_w, i32_w]
                 rfl
                refine pure_ (i := 19) (N := some 80) (v := undef) (a' := ?_) #[true,true,true,true,true,true,true,true,true,true,true,true,true,true,true,true,true,true,true,true,false,false,false,false,false,false,false,false,false,false,false] rfl rfl (any_of HT_.out (by kernel_rfl)) (fun _ _ _ h => h) (Or.inr ⟨by rfl, rfl⟩) ?_ ?_
                rotate_left
                ·
                 simp only [Act.put, sq0_, sq1_, sq2_, i64_w, i32_w]
                 rfl
                refine pure_ (i := 20) (N := some 81) (v := undef) (a' := ?_) #[true,true,true,true,true,true,true,true,true,true,true,true,true,true,true,true,true,true,true,true,true,false,false,false,false,false,false,false,false,false,false] rfl rfl (any_of HT_.out (by kernel_rfl)) (fun _ _ _ h => h) (Or.inr ⟨by rfl, rfl⟩) ?_ ?_
                rotate_left
                ·
                 simp only [Act.put, sq0_, sq1_, sq2_, i64_w, i32_w]
                 rfl
                refine pure_ (i := 21) (N := some 82) (v := undef) (a' := ?_) #[true,true,true,true,true,true,true,true,true,true,true,true,true,true,true,true,true,true,true,true,true,true,false,false,false,false,false,false,false,false,false] rfl rfl (any_of HT_.out (by kernel_rfl)) (fun _ _ _ h => h) (Or.inr ⟨by rfl, rfl⟩) ?_ ?_
                rotate_left
                ·
                 simp only [Act.put, sq0_, sq1_, sq2_, i64_w, i32_w]
                 rfl
                refine pure_ (i := 22) (N := some 83) (v := undef) (a' := ?_) #[true,true,true,true,true,true,true,true,true,true,true,true,true,true,true,true,true,true,true,true,true,true,true,false,false,false,false,false,false,false,false] rfl rfl (any_of HT_.out (by kernel_rfl)) (fun _ _ _ h => h) (Or.inr ⟨by rfl, rfl⟩) ?_ ?_
                rotate_left
                ·
                 simp only [Act.put, sq0_, sq1_, sq2_, i64_w, i32_w]
                 rfl
                refine pure_ (i := 23) (N := some 84) (v := undef) (a' := ?_) #[true,true,true,true,true,true,true,true,true,true,true,true,true,true,true,true,true,true,true,true,true,true,true,true,false,false,false,false,false,false,false] rfl rfl (any_of HT_.out (by kernel_rfl)) (fun _ _ _ h => h) (Or.inr ⟨by rfl, rfl⟩) ?_ ?_
                rotate_left
                ·
                 simp only [Act.put, sq0_, sq1_, sq2_, i64_w, i32_w]
                 rfl
                refine pure_ (i := 24) (N := some 85) (v := undef) (a' := ?_) #[true,true,true,true,true,true,true,true,true,true,true,true,true,true,true,true,true,true,true,true,true,true,true,true,true,false,false,false,false,false,false] rfl rfl (any_of HT_.out (by kernel_rfl)) (fun _ _ _ h => h) (Or.inr ⟨by rfl, rfl⟩) ?_ ?_
                rotate_left
                ·
                 simp only [Act.put, sq0_, sq1_, sq2_, i64_w, i32_w]
                 rfl
                refine pure_ (i := 25) (N := some 86) (v := undef) (a' := ?_) #[true,true,true,true,true,true,true,true,true,true,true,true,true,true,true,true,true,true,true,true,true,true,true,true,true,true,false,false,false,false,false] rfl rfl (any_of HT_.out (by kernel_rfl)) (fun _ _ _ h => h) (Or.inr ⟨by rfl, rfl⟩) ?_ ?_
                rotate_left
                ·
                 simp only [Act.put, sq0_, sq1_, sq2_, i64_w, i32_w]
                 rfl
                refine pure_ (i := 26) (N := some 87) (v := undef) (a' := ?_) #[true,true,true,true,true,true,true,true,true,true,true,true,true,true,true,true,true,true,true,true,true,true,true,true,true,true,true,false,false,false,false] rfl rfl (any_of HT_.out (by kernel_rfl)) (fun _ _ _ h => h) (Or.inr ⟨by rfl, rfl⟩) ?_ ?_
                rotate_left
                ·
                 simp only [Act.put, sq0_, sq1_, sq2_, i64_w, i32_w]
                 rfl
                refine pure_ (i := 27) (N := some 88) (v := undef) (a' := ?_) #[true,true,true,true,true,true,true,true,true,true,true,true,true,true,true,true,true,true,true,true,true,true,true,true,true,true,true,true,false,false,false] rfl rfl (any_of HT_.out (by kernel_rfl)) (fun _ _ _ h => h) (Or.inr ⟨by rfl, rfl⟩) ?_ ?_
                rotate_left
                ·
                 simp only [Act.put, sq0_, sq1_, sq2_, i64_w, i32_w]
                 rfl
                refine pure_ (i := 28) (N := some 89) (v := undef) (a' := ?_) #[true,true,true,true,true,true,true,true,true,true,true,true,true,true,true,true,true,true,true,true,true,true,true,true,true,true,true,true,true,false,false] rfl rfl (any_of HT_.out (by kernel_rfl)) (fun _ _ _ h => h) (Or.inr ⟨by rfl, rfl⟩) ?_ ?_
                rotate_left
                ·
                 simp only [Act.put, sq0_, sq1_, sq2_, i64_w, i32_w]
                 rfl
                refine pure_ (i := 29) (N := some 90) (v := ?_) (a' := ?_) #[true,true,true,true,true,true,true,true,true,true,true,true,true,true,true,true,true,true,true,true,true,true,true,true,true,true,true,true,true,true,false] rfl rfl (any_of HT_.out (by kernel_rfl)) (fun _ _ _ h => h) (Or.inl ⟨by rfl, ?_⟩) ?_ ?_; rotate_left; · (intro w'; go_simp; with_reducible rfl)
                rotate_left; · (simp only [Act.put, sq0_, sq1_, sq2_, i64_w, i32_w]; rfl)
                refine pure_ (i := 30) (N := some 91) (v := ?_) (a' := ?_) #[true,true,true,true,true,true,true,true,true,true,true,true,true,true,true,true,true,true,true,true,true,true,true,true,true,true,true,true,true,true,true] rfl rfl (any_of HT_.out (by kernel_rfl)) (fun _ _ _ h => h) (Or.inl ⟨by rfl, ?_⟩) ?_ ?_; rotate_left; · (intro w'; go_simp; with_reducible rfl)
                rotate_left; · (simp only [Act.put, sq0_, sq1_, sq2_, i64_w, i32_w]; rfl)
                refine done_ (done_of HT_.out (by kernel_rfl)) ?_
                try go_wp2
                have n0_ := Aside0.mk (Kd.R_drew HO_5.out)
                have n1_ := Aside0.mk (Kd.R_drew HO_7.out)
                have n2_ := Aside0.mk (blk_drew BK149.out)
                have n3_ := Aside0.mk (below_drew1 HB.out)
                clear HO_5
                clear HO_7
                clear BK149
                clear HB
                have HO_5 := n0_
                have HO_7 := n1_
                have BK149 := n2_
                have HB := n3_
                clear n0_ n1_ n2_ n3_
                refine start_ (n := 10) (S := fun w' => w'.cell? ⟨gb149, 0, none⟩ = some (.int .i64 x150000_1) ∧ w'.cell? ⟨gb149, 1, none⟩ = some (.int .i64 x150001_1) ∧ w'.cell? ⟨gb149, 2, none⟩ = some (.string x150002_1)) (ds := [9]) #[false,false,false,false,false,false,false,false,false,false] (by kernel_rfl) rfl rfl ⟨(blk_cell BK149.out 0).trans rfl, (blk_cell BK149.out 1).trans rfl, (blk_cell BK149.out 2).trans rfl⟩ (fun hHeld => ?_); refine with_tabW emendateref06_Diff.tab19 emendateref06_Diff.bits19 (fun HT_ HW_ => ?_)
                generalize w52.drew = w53 at HO_5 HO_7 BK149 HB hHeld ⊢
                refine pure_ (i := 0) (N := some 98) (v := ?_) (a' := ?_) #[true,false,false,false,false,false,false,false,false,false] rfl rfl (any_of HT_.out (by kernel_rfl)) (fun _ _ _ h => h) (Or.inl ⟨by rfl, ?_⟩) ?_ ?_; rotate_left; · (intro w'; go_simp; with_reducible rfl)
                rotate_left; · (simp only [Act.put, sq0_, sq1_, sq2_, i64_w, i32_w]; rfl)
                refine pure_ (i := 2) (N := some 100) (v := ?_) (a' := ?_) #[true,false,true,false,false,false,false,false,false,false] rfl rfl (any_of HT_.out (by kernel_rfl)) (fun _ _ _ h => h) (Or.inl ⟨by rfl, ?_⟩) ?_ ?_; rotate_left; · (intro w'; go_simp; with_reducible rfl)
                rotate_left; · (simp only [Act.put, sq0_, sq1_, sq2_, i64_w, i32_w]; rfl)
                refine pure_ (i := 3) (N := some 101) (v := ?_) (a' := ?_) #[true,false,true,true,false,false,false,false,false,false] rfl rfl (any_of HT_.out (by kernel_rfl)) (fun _ _ _ h => h) (Or.inl ⟨by rfl, ?_⟩) ?_ ?_; rotate_left; · (intro w'; go_simp; with_reducible rfl)
                rotate_left; · (simp only [Act.put, sq0_, sq1_, sq2_, i64_w, i32_w]; rfl)
                refine pure_ (i := 4) (N := some 102) (v := ?_) (a' := ?_) #[true,false,true,true,true,false,false,false,false,false] rfl rfl (any_of HT_.out (by kernel_rfl)) (fun _ _ _ h => h) (Or.inl ⟨by rfl, ?_⟩) ?_ ?_; rotate_left; · (intro w'; go_simp; with_reducible rfl)
                rotate_left; · (simp only [Act.put, sq0_, sq1_, sq2_, i64_w, i32_w]; rfl)
                refine pure_ (i := 5) (N := some 103) (v := ?_) (a' := ?_) #[true,false,true,true,true,true,false,false,false,false] rfl rfl (any_of HT_.out (by kernel_rfl)) (fun _ _ _ h => h) (Or.inl ⟨by rfl, ?_⟩) ?_ ?_; rotate_left; · (intro w'; go_simp; with_reducible rfl)
                rotate_left; · (simp only [Act.put, sq0_, sq1_, sq2_, i64_w, i32_w]; rfl)
                refine pure_ (i := 6) (N := some 104) (v := ?_) (a' := ?_) #[true,false,true,true,true,true,true,false,false,false] rfl rfl (any_of HT_.out (by kernel_rfl)) (fun _ _ _ h => h) (Or.inl ⟨by rfl, ?_⟩) ?_ ?_; rotate_left; · (intro w'; go_simp; with_reducible rfl)
                rotate_left; · (simp only [Act.put, sq0_, sq1_, sq2_, i64_w, i32_w]; rfl)
                refine take_ (i := 1) (N := some 99) (v := ?_) (a' := ?_) #[true,true,true,true,true,true,true,false,false,false] rfl rfl (take_ofW HT_.out HW_.out (by kernel_rfl)) (fun _ _ _ h => h) (Or.inl ⟨by rfl, ?_⟩) hHeld ?_ ?_
                rotate_left
                ·
                 rintro w' ⟨s0, s1, s2⟩
                 go_simp
                 with_reducible rfl
                rotate_left
                ·
                 simp only [Act.put, sq0_, sq1_, sq2_, i64_w, i32_w]
                 rfl
                refine pure_ (i := 7) (N := some 105) (v := ?_) (a' := ?_) #[true,true,true,true,true,true,true,true,false,false] rfl rfl (any_of HT_.out (by kernel_rfl)) (fun _ _ _ h => h) (Or.inl ⟨by rfl, ?_⟩) ?_ ?_; rotate_left; · (intro w'; go_simp; with_reducible rfl)
                rotate_left; · (simp only [Act.put, sq0_, sq1_, sq2_, i64_w, i32_w]; rfl)
                refine pure_ (i := 8) (N := some 106) (v := ?_) (a' := ?_) #[true,true,true,true,true,true,true,true,true,false] rfl rfl (any_of HT_.out (by kernel_rfl)) (fun _ _ _ h => h) (Or.inl ⟨by rfl, ?_⟩) ?_ ?_; rotate_left; · (intro w'; go_simp; with_reducible rfl)
                rotate_left; · (simp only [Act.put, sq0_, sq1_, sq2_, i64_w, i32_w]; rfl)
                refine last_ (i := 9) (N := none) #[true,true,true,true,true,true,true,true,true,true] rfl rfl (one_of HT_.out (by kernel_rfl)) (by decide) (fun K hK => ?_)
                have hs54 : w53.cell? ⟨gb149, 2, none⟩ = some (.string x150002_1) := (blk_cell BK149.out 2).trans rfl
                have hfs54 := blk_frozen BK149.out 2
                refine skip_ (w1 := ?_) (by rfl) rfl ?_ ?_
                rotate_left
                ·
                 go_simp
                 rfl
                refine hK.out _ _ ?_
                clear hK K
                refine done_ (done_of HT_.out (by kernel_rfl)) ?_
                try go_wp2
                go_roundg kj9
                case measure => have := HK1.out; have := HJ6.out; have := HJ9.out; omega
                case rel => exact ⟨(x7_1), (true), (x10_1), (wrap64 (x11_1 + 1)), (x150000_1), (x150001_1), (x150002_1 ++ (a1.extract (x11_1 : Int).toNat ((wrap64 (x11_1 + 1)) : Int).toNat)), (by first | rfl | (simp; done) | (simp [*]; done)), (by first | rfl | (simp; done) | (simp [*]; done)), (by first | rfl | (simp; done) | (simp [*]; done)), H', ⟨by have := HK1.out; have := HJ6.out; have := HJ9.out; omega⟩, ⟨by (with_reducible repeat (first | apply Kd.R_alloc | apply Kd.R_drewN | apply Kd.R_drew)); exact Kd.R_mono (Kd.R_far (p := ⟨gb149, 2, none⟩) (Kd.R_types HO_5.out BK149.out (by decide)) (fun _ hk => hk.2) (.string (x150002_1 ++ (a1.extract (x11_1 : Int).toNat ((wrap64 (x11_1 + 1)) : Int).toNat)))) (fun _ hk => trivial)⟩, ⟨by (with_reducible repeat (first | apply Kd.R_alloc | apply Kd.R_drewN | apply Kd.R_drew)); exact Kd.R_mono (Kd.R_far (p := ⟨gb149, 2, none⟩) (Kd.R_mono HO_7.out (fun k_ hk => (⟨hk, hk⟩ : _ ∧ k_ ≠ gb149))) (fun _ hk => hk.2) (.string (x150002_1 ++ (a1.extract (x11_1 : Int).toNat ((wrap64 (x11_1 + 1)) : Int).toNat)))) (fun _ hk => hk.1)⟩, ⟨by (with_reducible repeat (first | refine blk_drewN ?_ _ | refine blk_drew ?_ | refine blk_alloc ?_ _)); refine blk_put (cs := #[.int .i64 x150000_1, .int .i64 x150001_1, .string x150002_1]) ?_ 2 _ rfl; (with_reducible repeat (first | refine blk_drewN ?_ _ | refine blk_drew ?_ | refine blk_alloc ?_ _)); exact BK149.out⟩, ⟨by repeat (first | (with_reducible first | exact HB.out | apply below_alloc | apply pw_below_drewN | apply below_drew1 | refine below_set ?_ GE149.out) | exact HB.out)⟩⟩
               ·
                rw [if_neg c51] at H
                exact absurd H (by simp)
              ·
               rw [if_neg c50] at H
               exact absurd H (by simp)
             ·
              rw [if_neg c49] at H
              exact absurd H (by simp)
            ·
             rw [if_neg c48] at H
             exact absurd H (by simp)
         ·
          replace c25 := Bool.eq_false_iff.mpr c25
          subst c25
          have H1 : (if x11_1 = (a1.size : Int) then (emendateref06_Diff.l0 kj9 a0 a1 t146 (wrap64 ((a1.size : Int) + 1)) x7_1 true (wrap64 (x10_1 + 1)) x11_1 x10_1 1 (⟨#[]⟩ : ByteArray)) else (if x10_1 < (a0.size : Int) then (if 0 ≤ (wrap64 ((wrap64 ((wrap64 (x10_1 + 1)) * (wrap64 ((a1.size : Int) + 1)))) + x11_1)) then (if (wrap64 ((wrap64 ((wrap64 (x10_1 + 1)) * (wrap64 ((a1.size : Int) + 1)))) + x11_1)) < (t146.length : Int) then (if 0 ≤ (wrap64 ((wrap64 ((wrap64 (x10_1 * (wrap64 ((a1.size : Int) + 1)))) + x11_1)) + 1)) then (if (wrap64 ((wrap64 ((wrap64 (x10_1 * (wrap64 ((a1.size : Int) + 1)))) + x11_1)) + 1)) < (t146.length : Int) then (if (rd t146 (wrap64 ((wrap64 ((wrap64 (x10_1 + 1)) * (wrap64 ((a1.size : Int) + 1)))) + x11_1))) ≤ (rd t146 (wrap64 ((wrap64 ((wrap64 (x10_1 * (wrap64 ((a1.size : Int) + 1)))) + x11_1)) + 1))) then (emendateref06_Diff.l0 kj9 a0 a1 t146 (wrap64 ((a1.size : Int) + 1)) x7_1 true (wrap64 (x10_1 + 1)) x11_1 x10_1 1 (⟨#[]⟩ : ByteArray)) else (if 0 ≤ x11_1 then (if x11_1 ≤ (wrap64 (x11_1 + 1)) then (if (wrap64 (x11_1 + 1)) ≤ (a1.size : Int) then (if 0 + (a1.extract (x11_1 : Int).toNat ((wrap64 (x11_1 + 1)) : Int).toNat).size ≤ 9223372036854775807 then (emendateref06_Diff.l0 kj9 a0 a1 t146 (wrap64 ((a1.size : Int) + 1)) x7_1 true x10_1 (wrap64 (x11_1 + 1)) x10_1 0 ((⟨#[]⟩ : ByteArray) ++ (a1.extract (x11_1 : Int).toNat ((wrap64 (x11_1 + 1)) : Int).toNat))) else (none)) else (none)) else (none)) else (none))) else (none)) else (none)) else (none)) else (none)) else (if 0 ≤ x11_1 then (if x11_1 ≤ (wrap64 (x11_1 + 1)) then (if (wrap64 (x11_1 + 1)) ≤ (a1.size : Int) then (if 0 + (a1.extract (x11_1 : Int).toNat ((wrap64 (x11_1 + 1)) : Int).toNat).size ≤ 9223372036854775807 then (emendateref06_Diff.l0 kj9 a0 a1 t146 (wrap64 ((a1.size : Int) + 1)) x7_1 true x10_1 (wrap64 (x11_1 + 1)) x10_1 0 ((⟨#[]⟩ : ByteArray) ++ (a1.extract (x11_1 : Int).toNat ((wrap64 (x11_1 + 1)) : Int).toNat))) else (none)) else (none)) else (none)) else (none)))) = some r := by rw [if_neg (show ¬ (false = true) by decide)] at H; exact H
          clear H
          have H := H1
          clear H1
          by_cases c55 : x11_1 = (a1.size : Int)
          ·
           rw [if_pos c55] at H
           have c55b0 : (x11_1 == (a1.size : Int)) = true := beq_iff_eq.mpr c55
           have c55b1 : (x11_1 != (a1.size : Int)) = false := bne_eq_false_iff_eq.mpr c55
           clear c55
           have H' := Aside0.mk H
           clear H
           have hcz56_0 : wc.cell? ⟨gb149, 0, none⟩ = some (.int .i64 x150000_1) := (blk_cell BK149.out 0).trans rfl
           have hcz56_1 : wc.cell? ⟨gb149, 1, none⟩ = some (.int .i64 x150001_1) := (blk_cell BK149.out 1).trans rfl
           have hcz56_2 : wc.cell? ⟨gb149, 2, none⟩ = some (.string x150002_1) := (blk_cell BK149.out 2).trans rfl
           have hfz56_0 := blk_frozen BK149.out 0
           have hfz56_1 := blk_frozen BK149.out 1
           have hfz56_2 := blk_frozen BK149.out 2
           try go_wp2
           have n0_ : Aside0 (Kd.R (Kd.int .i64) 3 (((wc.setCell ⟨gb149, 0, none⟩ (.int .i64 x10_1)).setCell ⟨gb149, 1, none⟩ (.int .i64 0)).setCell ⟨gb149, 2, none⟩ (.string (⟨#[]⟩ : ByteArray))) w.heap.size (fun _ => True) v147 t146) := ⟨by (with_reducible repeat (first | apply Kd.R_alloc | apply Kd.R_drewN | apply Kd.R_drew)); exact Kd.R_mono (Kd.R_far (p := ⟨gb149, 2, none⟩) (Kd.R_far (p := ⟨gb149, 1, none⟩) (Kd.R_far (p := ⟨gb149, 0, none⟩) (Kd.R_types HO_5.out BK149.out (by decide)) (fun _ hk => hk.2) (.int .i64 x10_1)) (fun _ hk => hk.2) (.int .i64 0)) (fun _ hk => hk.2) (.string (⟨#[]⟩ : ByteArray))) (fun _ hk => trivial)⟩
           have n1_ : Aside0 (Kd.R k30 30 (((wc.setCell ⟨gb149, 0, none⟩ (.int .i64 x10_1)).setCell ⟨gb149, 1, none⟩ (.int .i64 0)).setCell ⟨gb149, 2, none⟩ (.string (⟨#[]⟩ : ByteArray))) w.heap.size (fun k_ => k_ ≠ gb149) u7 x7_1) := ⟨by (with_reducible repeat (first | apply Kd.R_alloc | apply Kd.R_drewN | apply Kd.R_drew)); exact Kd.R_mono (Kd.R_far (p := ⟨gb149, 2, none⟩) (Kd.R_far (p := ⟨gb149, 1, none⟩) (Kd.R_far (p := ⟨gb149, 0, none⟩) (Kd.R_mono HO_7.out (fun k_ hk => (⟨hk, hk⟩ : _ ∧ k_ ≠ gb149))) (fun _ hk => hk.2) (.int .i64 x10_1)) (fun _ hk => hk.2) (.int .i64 0)) (fun _ hk => hk.2) (.string (⟨#[]⟩ : ByteArray))) (fun _ hk => hk.1)⟩
           have n2_ : Aside0 ((((wc.setCell ⟨gb149, 0, none⟩ (.int .i64 x10_1)).setCell ⟨gb149, 1, none⟩ (.int .i64 0)).setCell ⟨gb149, 2, none⟩ (.string (⟨#[]⟩ : ByteArray))).heap[gb149]? = some (.cells #[.int .i64 x10_1, .int .i64 0, .string (⟨#[]⟩ : ByteArray)] 30 (0, 0))) := ⟨by (with_reducible repeat (first | refine blk_drewN ?_ _ | refine blk_drew ?_ | refine blk_alloc ?_ _)); refine blk_put (cs := #[.int .i64 x10_1, .int .i64 0, .string x150002_1]) ?_ 2 _ rfl; (with_reducible repeat (first | refine blk_drewN ?_ _ | refine blk_drew ?_ | refine blk_alloc ?_ _)); refine blk_put (cs := #[.int .i64 x10_1, .int .i64 x150001_1, .string x150002_1]) ?_ 1 _ rfl; (with_reducible repeat (first | refine blk_drewN ?_ _ | refine blk_drew ?_ | refine blk_alloc ?_ _)); refine blk_put (cs := #[.int .i64 x150000_1, .int .i64 x150001_1, .string x150002_1]) ?_ 0 _ rfl; (with_reducible repeat (first | refine blk_drewN ?_ _ | refine blk_drew ?_ | refine blk_alloc ?_ _)); exact BK149.out⟩
           have n3_ : Aside0 (Below w.heap.size w (((wc.setCell ⟨gb149, 0, none⟩ (.int .i64 x10_1)).setCell ⟨gb149, 1, none⟩ (.int .i64 0)).setCell ⟨gb149, 2, none⟩ (.string (⟨#[]⟩ : ByteArray)))) := ⟨by repeat (first | (with_reducible first | exact HB.out | apply below_alloc | apply pw_below_drewN | apply below_drew1 | refine below_set ?_ GE149.out) | exact HB.out)⟩
           (try clear HO_5)
           (try clear HO_7)
           (try clear BK149)
           (try clear HB)
           generalize (((wc.setCell ⟨gb149, 0, none⟩ (.int .i64 x10_1)).setCell ⟨gb149, 1, none⟩ (.int .i64 0)).setCell ⟨gb149, 2, none⟩ (.string (⟨#[]⟩ : ByteArray))) = w57 at n0_ n1_ n2_ n3_ ⊢
           have HO_5 := n0_
           have HO_7 := n1_
           have BK149 := n2_
           have HB := n3_
           clear n0_ n1_ n2_ n3_
           have n0_ := Aside0.mk (Kd.R_drew HO_5.out)
           have n1_ := Aside0.mk (Kd.R_drew HO_7.out)
           have n2_ := Aside0.mk (blk_drew BK149.out)
           have n3_ := Aside0.mk (below_drew1 HB.out)
           clear HO_5
           clear HO_7
           clear BK149
           clear HB
           have HO_5 := n0_
           have HO_7 := n1_
           have BK149 := n2_
           have HB := n3_
           clear n0_ n1_ n2_ n3_
           refine start_ (n := 31) (S := fun w' => True) (ds := []) #[false,false,false,false,false,false,false,false,false,false,false,false,false,false,false,false,false,false,false,false,false,false,false,false,false,false,false,false,false,false,false] (by kernel_rfl) rfl rfl trivial (fun hHeld => ?_); refine with_tabW emendateref06_Diff.tab16 emendateref06_Diff.bits16 (fun HT_ HW_ => ?_)
           generalize w57.drew = w58 at HO_5 HO_7 BK149 HB hHeld ⊢
           refine pure_ (i := 0) (N := some 61) (v := ?_) (a' := ?_) #[true,false,false,false,false,false,false,false,false,false,false,false,false,false,false,false,false,false,false,false,false,false,false,false,false,false,false,false,false,false,false] rfl rfl (any_of HT_.out (by kernel_rfl)) (fun _ _ _ h => h) (Or.inl ⟨by rfl, ?_⟩) ?_ ?_; rotate_left; · (intro w'; go_simp; with_reducible rfl)
           rotate_left; · (simp only [Act.put, sq0_, sq1_, sq2_, i64_w, i32_w]; rfl)
           refine pure_ (i := 1) (N := some 62) (v := ?_) (a' := ?_) #[true,true,false,false,false,false,false,false,false,false,false,false,false,false,false,false,false,false,false,false,false,false,false,false,false,false,false,false,false,false,false] rfl rfl (any_of HT_.out (by kernel_rfl)) (fun _ _ _ h => h) (Or.inl ⟨by rfl, ?_⟩) ?_ ?_; rotate_left; · (intro w'; go_simp; with_reducible rfl)
           rotate_left; · (simp only [Act.put, sq0_, sq1_, sq2_, i64_w, i32_w]; rfl)
           refine pure_ (i := 2) (N := some 63) (v := ?_) (a' := ?_) #[true,true,true,false,false,false,false,false,false,false,false,false,false,false,false,false,false,false,false,false,false,false,false,false,false,false,false,false,false,false,false] rfl rfl (any_of HT_.out (by kernel_rfl)) (fun _ _ _ h => h) (Or.inl ⟨by rfl, ?_⟩) ?_ ?_; rotate_left; · (intro w'; go_simp; with_reducible rfl)
           rotate_left; · (simp only [Act.put, sq0_, sq1_, sq2_, i64_w, i32_w]; rfl)
           refine pure_ (i := 3) (N := some 64) (v := ?_) (a' := ?_) #[true,true,true,true,false,false,false,false,false,false,false,false,false,false,false,false,false,false,false,false,false,false,false,false,false,false,false,false,false,false,false] rfl rfl (any_of HT_.out (by kernel_rfl)) (fun _ _ _ h => h) (Or.inl ⟨by rfl, ?_⟩) ?_ ?_; rotate_left; · (intro w'; go_simp; with_reducible rfl)
           rotate_left; · (simp only [Act.put, sq0_, sq1_, sq2_, i64_w, i32_w]; rfl)
           refine pure_ (i := 4) (N := some 65) (v := ?_) (a' := ?_) #[true,true,true,true,true,false,false,false,false,false,false,false,false,false,false,false,false,false,false,false,false,false,false,false,false,false,false,false,false,false,false] rfl rfl (any_of HT_.out (by kernel_rfl)) (fun _ _ _ h => h) (Or.inl ⟨by rfl, ?_⟩) ?_ ?_; rotate_left; · (intro w'; go_simp; with_reducible rfl)
           rotate_left; · (simp only [Act.put, sq0_, sq1_, sq2_, i64_w, i32_w]; rfl)
           refine pure_ (i := 5) (N := some 66) (v := undef) (a' := ?_) #[true,true,true,true,true,true,false,false,false,false,false,false,false,false,false,false,false,false,false,false,false,false,false,false,false,false,false,false,false,false,false] rfl rfl (any_of HT_.out (by kernel_rfl)) (fun _ _ _ h => h) (Or.inr ⟨by rfl, rfl⟩) ?_ ?_
           rotate_left
           ·
            simp only [Act.put, sq0_, sq1_, sq2_, i64_w, i32_w]
            rfl
           refine pure_ (i := 6) (N := some 67) (v := undef) (a' := ?_) #[true,true,true,true,true,true,true,false,false,false,false,false,false,false,false,false,false,false,false,false,false,false,false,false,false,false,false,false,false,false,false] rfl rfl (any_of HT_.out (by kernel_rfl)) (fun _ _ _ h => h) (Or.inr ⟨by rfl, rfl⟩) ?_ ?_
           rotate_left
           ·
            simp only [Act.put, sq0_, sq1_, sq2_, i64_w, i32_w]
            rfl
           refine pure_ (i := 7) (N := some 68) (v := undef) (a' := ?_) #[true,true,true,true,true,true,true,true,false,false,false,false,false,false,false,false,false,false,false,false,false,false,false,false,false,false,false,false,false,false,false] rfl rfl (any_of HT_.out (by kernel_rfl)) (fun _ _ _ h => h) (Or.inr ⟨by rfl, rfl⟩) ?_ ?_
           rotate_left
           ·
            simp only [Act.put, sq0_, sq1_, sq2_, i64_w, i32_w]
            rfl
           refine pure_ (i := 8) (N := some 69) (v := undef) (a' := ?_) #[true,true,true,true,true,true,true,true,true,false,false,false,false,false,false,false,false,false,false,false,false,false,false,false,false,false,false,false,false,false,false] rfl rfl (any_of HT_.out (by kernel_rfl)) (fun _ _ _ h => h) (Or.inr ⟨by rfl, rfl⟩) ?_ ?_
           rotate_left
           ·
            simp only [Act.put, sq0_, sq1_, sq2_, i64_w, i32_w]
            rfl
           refine pure_ (i := 9) (N := some 70) (v := undef) (a' := ?_) #[true,true,true,true,true,true,true,true,true,true,false,false,false,false,false,false,false,false,false,false,false,false,false,false,false,false,false,false,false,false,false] rfl rfl (any_of HT_.out (by kernel_rfl)) (fun _ _ _ h => h) (Or.inr ⟨by rfl, rfl⟩) ?_ ?_
           rotate_left
           ·
            simp only [Act.put, sq0_, sq1_, sq2_, i64_w, i32_w]
            rfl
           refine pure_ (i := 10) (N := some 71) (v := undef) (a' := ?_) #[true,true,true,true,true,true,true,true,true,true,true,false,false,false,false,false,false,false,false,false,false,false,false,false,false,false,false,false,false,false,false] rfl rfl (any_of HT_.out (by kernel_rfl)) (fun _ _ _ h => h) (Or.inr ⟨by rfl, rfl⟩) ?_ ?_
           rotate_left
           ·
            simp only [Act.put, sq0_, sq1_, sq2_, i64_w, i32_w]
            rfl
           refine pure_ (i := 11) (N := some 72) (v := undef) (a' := ?_) #[true,true,true,true,true,true,true,true,true,true,true,true,false,false,false,false,false,false,false,false,false,false,false,false,false,false,false,false,false,false,false] rfl rfl (any_of HT_.out (by kernel_rfl)) (fun _ _ _ h => h) (Or.inr ⟨by rfl, rfl⟩) ?_ ?_
           rotate_left
           ·
            simp only [Act.put, sq0_, sq1_, sq2_, i64_w, i32_w]
            rfl
           refine pure_ (i := 12) (N := some 73) (v := undef) (a' := ?_) #[true,true,true,true,true,true,true,true,true,true,true,true,true,false,false,false,false,false,false,false,false,false,false,false,false,false,false,false,false,false,false] rfl rfl (any_of HT_.out (by kernel_rfl)) (fun _ _ _ h => h) (Or.inr ⟨by rfl, rfl⟩) ?_ ?_
           rotate_left
           ·
            simp only [Act.put, sq0_, sq1_, sq2_, i64_w, i32_w]
            rfl
           refine pure_ (i := 13) (N := some 74) (v := undef) (a' := ?_) #[true,true,true,true,true,true,true,true,true,true,true,true,true,true,false,false,false,false,false,false,false,false,false,false,false,false,false,false,false,false,false] rfl rfl (any_of HT_.out (by kernel_rfl)) (fun _ _ _ h => h) (Or.inr ⟨by rfl, rfl⟩) ?_ ?_
           rotate_left
           ·
            simp only [Act.put, sq0_, sq1_, sq2_, i64_w, i32_w]
            rfl
           refine pure_ (i := 14) (N := some 75) (v := undef) (a' := ?_) #[true,true,true,true,true,true,true,true,true,true,true,true,true,true,true,false,false,false,false,false,false,false,false,false,false,false,false,false,false,false,false] rfl rfl (any_of HT_.out (by kernel_rfl)) (fun _ _ _ h => h) (Or.inr ⟨by rfl, rfl⟩) ?_ ?_
           rotate_left
           ·
            simp only [Act.put, sq0_, sq1_, sq2_, i64_w, i32_w]
            rfl
           refine pure_ (i := 15) (N := some 76) (v := undef) (a' := ?_) #[true,true,true,true,true,true,true,true,true,true,true,true,true,true,true,true,false,false,false,false,false,false,false,false,false,false,false,false,false,false,false] rfl rfl (any_of HT_.out (by kernel_rfl)) (fun _ _ _ h => h) (Or.inr ⟨by rfl, rfl⟩) ?_ ?_
           rotate_left
           ·
            simp only [Act.put, sq0_, sq1_, sq2_, i64_w, i32_w]
            rfl
           refine pure_ (i := 16) (N := some 77) (v := undef) (a' := ?_) #[true,true,true,true,true,true,true,true,true,true,true,true,true,true,true,true,true,false,false,false,false,false,false,false,false,false,false,false,false,false,false] rfl rfl (any_of HT_.out (by kernel_rfl)) (fun _ _ _ h => h) (Or.inr ⟨by rfl, rfl⟩) ?_ ?_
           rotate_left
           ·
            simp only [Act.put, sq0_, sq1_, sq2_, i64_w, i32_w]
            rfl
           refine pure_ (i := 17) (N := some 78) (v := undef) (a' := ?_) #[true,true,true,true,true,true,true,true,true,true,true,true,true,true,true,true,true,true,false,false,false,false,false,false,false,false,false,false,false,false,false] rfl rfl (any_of HT_.out (by kernel_rfl)) (fun _ _ _ h => h) (Or.inr ⟨by rfl, rfl⟩) ?_ ?_
           rotate_left
           ·
            simp only [Act.put, sq0_, sq1_, sq2_, i64_w, i32_w]
            rfl
           refine pure_ (i := 18) (N := some 79) (v := undef) (a' := ?_) #[true,true,true,true,true,true,true,true,true,true,true,true,true,true,true,true,true,true,true,false,false,false,false,false,false,false,false,false,false,false,false] rfl rfl (any_of HT_.out (by kernel_rfl)) (fun _ _ _ h => h) (Or.inr ⟨by rfl, rfl⟩) ?_ ?_
           rotate_left
           ·
            simp only [Act.put, sq0_, sq1_, sq2_, i64_w, i32_w]
            rfl
           refine pure_ (i := 19) (N := some 80) (v := undef) (a' := ?_) #[true,true,true,true,true,true,true,true,true,true,true,true,true,true,true,true,true,true,true,true,false,false,false,false,false,false,false,false,false,false,false] rfl rfl (any_of HT_.out (by kernel_rfl)) (fun _ _ _ h => h) (Or.inr ⟨by rfl, rfl⟩) ?_ ?_
           rotate_left
           ·
            simp only [Act.put, sq0_, sq1_, sq2_, i64_w, i32_w]
            rfl
           refine pure_ (i := 20) (N := some 81) (v := undef) (a' := ?_) #[true,true,true,true,true,true,true,true,true,true,true,true,true,true,true,true,true,true,true,true,true,false,false,false,false,false,false,false,false,false,false] rfl rfl (any_of HT_.out (by kernel_rfl)) (fun _ _ _ h => h) (Or.inr ⟨by rfl, rfl⟩) ?_ ?_
           rotate_left
           ·
            simp only [Act.put, sq0_, sq1_, sq2_, i64_w, i32_w]
            rfl
           refine pure_ (i := 21) (N := some 82) (v := undef) (a' := ?_) #[true,true,true,true,true,true,true,true,true,true,true,true,true,true,true,true,true,true,true,true,true,true,false,false,false,false,false,false,false,false,false] rfl rfl (any_of HT_.out (by kernel_rfl)) (fun _ _ _ h => h) (Or.inr ⟨by rfl, rfl⟩) ?_ ?_
           rotate_left
           ·
            simp only [Act.put, sq0_, sq1_, sq2_, i64_w, i32_w]
            rfl
           refine pure_ (i := 22) (N := some 83) (v := undef) (a' := ?_) #[true,true,true,true,true,true,true,true,true,true,true,true,true,true,true,true,true,true,true,true,true,true,true,false,false,false,false,false,false,false,false] rfl rfl (any_of HT_.out (by kernel_rfl)) (fun _ _ _ h => h) (Or.inr ⟨by rfl, rfl⟩) ?_ ?_
           rotate_left
           ·
            simp only [Act.put, sq0_, sq1_, sq2_, i64_w, i32_w]
            rfl
           refine pure_ (i := 23) (N := some 84) (v := undef) (a' := ?_) #[true,true,true,true,true,true,true,true,true,true,true,true,true,true,true,true,true,true,true,true,true,true,true,true,false,false,false,false,false,false,false] rfl rfl (any_of HT_.out (by kernel_rfl)) (fun _ _ _ h => h) (Or.inr ⟨by rfl, rfl⟩) ?_ ?_
           rotate_left
           ·
            simp only [Act.put, sq0_, sq1_, sq2_, i64_w, i32_w]
            rfl
           refine pure_ (i := 24) (N := some 85) (v := undef) (a' := ?_) #[true,true,true,true,true,true,true,true,true,true,true,true,true,true,true,true,true,true,true,true,true,true,true,true,true,false,false,false,false,false,false] rfl rfl (any_of HT_.out (by kernel_rfl)) (fun _ _ _ h => h) (Or.inr ⟨by rfl, rfl⟩) ?_ ?_
           rotate_left
           ·
            simp only [Act.put, sq0_, sq1_, sq2_, i64_w, i32_w]
            rfl
           refine pure_ (i := 25) (N := some 86) (v := undef) (a' := ?_) #[true,true,true,true,true,true,true,true,true,true,true,true,true,true,true,true,true,true,true,true,true,true,true,true,true,true,false,false,false,false,false] rfl rfl (any_of HT_.out (by kernel_rfl)) (fun _ _ _ h => h) (Or.inr ⟨by rfl, rfl⟩) ?_ ?_
           rotate_left
           ·
            simp only [Act.put, sq0_, sq1_, sq2_, i64_w, i32_w]
            rfl
           refine pure_ (i := 26) (N := some 87) (v := undef) (a' := ?_) #[true,true,true,true,true,true,true,true,true,true,true,true,true,true,true,true,true,true,true,true,true,true,true,true,true,true,true,false,false,false,false] rfl rfl (any_of HT_.out (by kernel_rfl)) (fun _ _ _ h => h) (Or.inr ⟨by rfl, rfl⟩) ?_ ?_
           rotate_left
           ·
            simp only [Act.put, sq0_, sq1_, sq2_, i64_w, i32_w]
            rfl
           refine pure_ (i := 27) (N := some 88) (v := undef) (a' := ?_) #[true,true,true,true,true,true,true,true,true,true,true,true,true,true,true,true,true,true,true,true,true,true,true,true,true,true,true,true,false,false,false] rfl rfl (any_of HT_.out (by kernel_rfl)) (fun _ _ _ h => h) (Or.inr ⟨by rfl, rfl⟩) ?_ ?_
           rotate_left
           ·
            simp only [Act.put, sq0_, sq1_, sq2_, i64_w, i32_w]
            rfl
           refine pure_ (i := 28) (N := some 89) (v := undef) (a' := ?_) #[true,true,true,true,true,true,true,true,true,true,true,true,true,true,true,true,true,true,true,true,true,true,true,true,true,true,true,true,true,false,false] rfl rfl (any_of HT_.out (by kernel_rfl)) (fun _ _ _ h => h) (Or.inr ⟨by rfl, rfl⟩) ?_ ?_
           rotate_left
           ·
            simp only [Act.put, sq0_, sq1_, sq2_, i64_w, i32_w]
            rfl
           refine pure_ (i := 29) (N := some 90) (v := undef) (a' := ?_) #[true,true,true,true,true,true,true,true,true,true,true,true,true,true,true,true,true,true,true,true,true,true,true,true,true,true,true,true,true,true,false] rfl rfl (any_of HT_.out (by kernel_rfl)) (fun _ _ _ h => h) (Or.inr ⟨by rfl, rfl⟩) ?_ ?_
           rotate_left
           ·
            simp only [Act.put, sq0_, sq1_, sq2_, i64_w, i32_w]
            rfl
           refine pure_ (i := 30) (N := some 91) (v := ?_) (a' := ?_) #[true,true,true,true,true,true,true,true,true,true,true,true,true,true,true,true,true,true,true,true,true,true,true,true,true,true,true,true,true,true,true] rfl rfl (any_of HT_.out (by kernel_rfl)) (fun _ _ _ h => h) (Or.inl ⟨by rfl, ?_⟩) ?_ ?_; rotate_left; · (intro w'; go_simp; with_reducible rfl)
           rotate_left; · (simp only [Act.put, sq0_, sq1_, sq2_, i64_w, i32_w]; rfl)
           refine done_ (done_of HT_.out (by kernel_rfl)) ?_
           have hcz59_0 : w58.cell? ⟨gb149, 0, none⟩ = some (.int .i64 x10_1) := (blk_cell BK149.out 0).trans rfl
           have hcz59_1 : w58.cell? ⟨gb149, 1, none⟩ = some (.int .i64 0) := (blk_cell BK149.out 1).trans rfl
           have hcz59_2 : w58.cell? ⟨gb149, 2, none⟩ = some (.string (⟨#[]⟩ : ByteArray)) := (blk_cell BK149.out 2).trans rfl
           have hfz59_0 := blk_frozen BK149.out 0
           have hfz59_1 := blk_frozen BK149.out 1
           have hfz59_2 := blk_frozen BK149.out 2
           try go_wp2
           go_roundg kj9
           case measure => have := HK1.out; have := HJ6.out; have := HJ9.out; omega
           case rel => exact ⟨(x7_1), (true), (wrap64 (x10_1 + 1)), (x11_1), (x10_1), 1, ((⟨#[]⟩ : ByteArray)), (by first | rfl | (simp; done) | (simp [*]; done)), (by first | rfl | (simp; done) | (simp [*]; done)), (by first | rfl | (simp; done) | (simp [*]; done)), H', ⟨by have := HK1.out; have := HJ6.out; have := HJ9.out; omega⟩, ⟨by (with_reducible repeat (first | apply Kd.R_alloc | apply Kd.R_drewN | apply Kd.R_drew)); exact Kd.R_mono (Kd.R_far (p := ⟨gb149, 1, none⟩) (Kd.R_types HO_5.out BK149.out (by decide)) (fun _ hk => hk.2) (.int .i64 1)) (fun _ hk => trivial)⟩, ⟨by (with_reducible repeat (first | apply Kd.R_alloc | apply Kd.R_drewN | apply Kd.R_drew)); exact Kd.R_mono (Kd.R_far (p := ⟨gb149, 1, none⟩) (Kd.R_mono HO_7.out (fun k_ hk => (⟨hk, hk⟩ : _ ∧ k_ ≠ gb149))) (fun _ hk => hk.2) (.int .i64 1)) (fun _ hk => hk.1)⟩, ⟨by (with_reducible repeat (first | refine blk_drewN ?_ _ | refine blk_drew ?_ | refine blk_alloc ?_ _)); refine blk_put (cs := #[.int .i64 x10_1, .int .i64 0, .string (⟨#[]⟩ : ByteArray)]) ?_ 1 _ rfl; (with_reducible repeat (first | refine blk_drewN ?_ _ | refine blk_drew ?_ | refine blk_alloc ?_ _)); exact BK149.out⟩, ⟨by repeat (first | (with_reducible first | exact HB.out | apply below_alloc | apply pw_below_drewN | apply below_drew1 | refine below_set ?_ GE149.out) | exact HB.out)⟩⟩
          ·
           rw [if_neg c55] at H
           have c55b0 : (x11_1 == (a1.size : Int)) = false := beq_eq_false_iff_ne.mpr c55
           have c55b1 : (x11_1 != (a1.size : Int)) = true := bne_iff_ne.mpr c55
           by_cases c60 : x10_1 < (a0.size : Int)
           ·
            rw [if_pos c60] at H
            have c60b0 : decide (x10_1 < (a0.size : Int)) = true := decide_eq_true c60
            clear c60
            obtain ⟨ji61, hji61⟩ : ∃ j_ : Int, (wrap64 ((wrap64 ((wrap64 (x10_1 + 1)) * (wrap64 ((a1.size : Int) + 1)))) + x11_1)) = j_ := ⟨_, rfl⟩
            replace H : (if 0 ≤ (ji61) then (if (ji61) < (t146.length : Int) then (if 0 ≤ (wrap64 ((wrap64 ((wrap64 (x10_1 * (wrap64 ((a1.size : Int) + 1)))) + x11_1)) + 1)) then (if (wrap64 ((wrap64 ((wrap64 (x10_1 * (wrap64 ((a1.size : Int) + 1)))) + x11_1)) + 1)) < (t146.length : Int) then (if (rd t146 (ji61)) ≤ (rd t146 (wrap64 ((wrap64 ((wrap64 (x10_1 * (wrap64 ((a1.size : Int) + 1)))) + x11_1)) + 1))) then (emendateref06_Diff.l0 kj9 a0 a1 t146 (wrap64 ((a1.size : Int) + 1)) x7_1 true (wrap64 (x10_1 + 1)) x11_1 x10_1 1 (⟨#[]⟩ : ByteArray)) else (if 0 ≤ x11_1 then (if x11_1 ≤ (wrap64 (x11_1 + 1)) then (if (wrap64 (x11_1 + 1)) ≤ (a1.size : Int) then (if 0 + (a1.extract (x11_1 : Int).toNat ((wrap64 (x11_1 + 1)) : Int).toNat).size ≤ 9223372036854775807 then (emendateref06_Diff.l0 kj9 a0 a1 t146 (wrap64 ((a1.size : Int) + 1)) x7_1 true x10_1 (wrap64 (x11_1 + 1)) x10_1 0 ((⟨#[]⟩ : ByteArray) ++ (a1.extract (x11_1 : Int).toNat ((wrap64 (x11_1 + 1)) : Int).toNat))) else (none)) else (none)) else (none)) else (none))) else (none)) else (none)) else (none)) else (none)) = some r := by first | (rw [hji61] at H; exact H) | (simp only [hji61] at H ⊢; exact H)
            have hji61w : (IntKind.i64.wrap ((wrap64 ((wrap64 (x10_1 + 1)) * (wrap64 ((a1.size : Int) + 1)))) + x11_1)) = ji61 := (i64_w _).trans hji61
            try (have hji30xji61 := hji30w; rw [hji61] at hji30xji61)
            try (have hji30yji61 := hji30; rw [hji61] at hji30yji61)
            by_cases c62 : 0 ≤ (ji61)
            ·
             rw [if_pos c62] at H
             have c62b0 : decide (0 ≤ (ji61)) = true := decide_eq_true c62
             clear c62
             by_cases c63 : (ji61) < (t146.length : Int)
             ·
              rw [if_pos c63] at H
              have c63b0 : decide ((ji61) < (t146.length : Int)) = true := decide_eq_true c63
              clear c63
              obtain ⟨ji64, hji64⟩ : ∃ j_ : Int, (wrap64 ((wrap64 ((wrap64 (x10_1 * (wrap64 ((a1.size : Int) + 1)))) + x11_1)) + 1)) = j_ := ⟨_, rfl⟩
              replace H : (if 0 ≤ (ji64) then (if (ji64) < (t146.length : Int) then (if (rd t146 (ji61)) ≤ (rd t146 (ji64)) then (emendateref06_Diff.l0 kj9 a0 a1 t146 (wrap64 ((a1.size : Int) + 1)) x7_1 true (wrap64 (x10_1 + 1)) x11_1 x10_1 1 (⟨#[]⟩ : ByteArray)) else (if 0 ≤ x11_1 then (if x11_1 ≤ (wrap64 (x11_1 + 1)) then (if (wrap64 (x11_1 + 1)) ≤ (a1.size : Int) then (if 0 + (a1.extract (x11_1 : Int).toNat ((wrap64 (x11_1 + 1)) : Int).toNat).size ≤ 9223372036854775807 then (emendateref06_Diff.l0 kj9 a0 a1 t146 (wrap64 ((a1.size : Int) + 1)) x7_1 true x10_1 (wrap64 (x11_1 + 1)) x10_1 0 ((⟨#[]⟩ : ByteArray) ++ (a1.extract (x11_1 : Int).toNat ((wrap64 (x11_1 + 1)) : Int).toNat))) else (none)) else (none)) else (none)) else (none))) else (none)) else (none)) = some r := by first | (rw [hji64] at H; exact H) | (simp only [hji64] at H ⊢; exact H)
              have hji64w : (IntKind.i64.wrap ((wrap64 ((wrap64 (x10_1 * (wrap64 ((a1.size : Int) + 1)))) + x11_1)) + 1)) = ji64 := (i64_w _).trans hji64
              by_cases c65 : 0 ≤ (ji64)
              ·
               rw [if_pos c65] at H
               have c65b0 : decide (0 ≤ (ji64)) = true := decide_eq_true c65
               clear c65
               by_cases c66 : (ji64) < (t146.length : Int)
               ·
                rw [if_pos c66] at H
                have c66b0 : decide ((ji64) < (t146.length : Int)) = true := decide_eq_true c66
                clear c66
                by_cases c67 : (rd t146 (ji61)) ≤ (rd t146 (ji64))
                ·
                 rw [if_pos c67] at H
                 have c67b0 : decide ((rd t146 (ji61)) ≤ (rd t146 (ji64))) = true := decide_eq_true c67
                 clear c67
                 have H' := Aside0.mk H
                 clear H
                 have hcz68_0 : wc.cell? ⟨gb149, 0, none⟩ = some (.int .i64 x150000_1) := (blk_cell BK149.out 0).trans rfl
                 have hcz68_1 : wc.cell? ⟨gb149, 1, none⟩ = some (.int .i64 x150001_1) := (blk_cell BK149.out 1).trans rfl
                 have hcz68_2 : wc.cell? ⟨gb149, 2, none⟩ = some (.string x150002_1) := (blk_cell BK149.out 2).trans rfl
                 have hfz68_0 := blk_frozen BK149.out 0
                 have hfz68_1 := blk_frozen BK149.out 1
                 have hfz68_2 := blk_frozen BK149.out 2
                 try go_wp2
                 have n0_ : Aside0 (Kd.R (Kd.int .i64) 3 (((wc.setCell ⟨gb149, 0, none⟩ (.int .i64 x10_1)).setCell ⟨gb149, 1, none⟩ (.int .i64 0)).setCell ⟨gb149, 2, none⟩ (.string (⟨#[]⟩ : ByteArray))) w.heap.size (fun _ => True) v147 t146) := ⟨by (with_reducible repeat (first | apply Kd.R_alloc | apply Kd.R_drewN | apply Kd.R_drew)); exact Kd.R_mono (Kd.R_far (p := ⟨gb149, 2, none⟩) (Kd.R_far (p := ⟨gb149, 1, none⟩) (Kd.R_far (p := ⟨gb149, 0, none⟩) (Kd.R_types HO_5.out BK149.out (by decide)) (fun _ hk => hk.2) (.int .i64 x10_1)) (fun _ hk => hk.2) (.int .i64 0)) (fun _ hk => hk.2) (.string (⟨#[]⟩ : ByteArray))) (fun _ hk => trivial)⟩
                 have n1_ : Aside0 (Kd.R k30 30 (((wc.setCell ⟨gb149, 0, none⟩ (.int .i64 x10_1)).setCell ⟨gb149, 1, none⟩ (.int .i64 0)).setCell ⟨gb149, 2, none⟩ (.string (⟨#[]⟩ : ByteArray))) w.heap.size (fun k_ => k_ ≠ gb149) u7 x7_1) := ⟨by (with_reducible repeat (first | apply Kd.R_alloc | apply Kd.R_drewN | apply Kd.R_drew)); exact Kd.R_mono (Kd.R_far (p := ⟨gb149, 2, none⟩) (Kd.R_far (p := ⟨gb149, 1, none⟩) (Kd.R_far (p := ⟨gb149, 0, none⟩) (Kd.R_mono HO_7.out (fun k_ hk => (⟨hk, hk⟩ : _ ∧ k_ ≠ gb149))) (fun _ hk => hk.2) (.int .i64 x10_1)) (fun _ hk => hk.2) (.int .i64 0)) (fun _ hk => hk.2) (.string (⟨#[]⟩ : ByteArray))) (fun _ hk => hk.1)⟩
                 have n2_ : Aside0 ((((wc.setCell ⟨gb149, 0, none⟩ (.int .i64 x10_1)).setCell ⟨gb149, 1, none⟩ (.int .i64 0)).setCell ⟨gb149, 2, none⟩ (.string (⟨#[]⟩ : ByteArray))).heap[gb149]? = some (.cells #[.int .i64 x10_1, .int .i64 0, .string (⟨#[]⟩ : ByteArray)] 30 (0, 0))) := ⟨by (with_reducible repeat (first | refine blk_drewN ?_ _ | refine blk_drew ?_ | refine blk_alloc ?_ _)); refine blk_put (cs := #[.int .i64 x10_1, .int .i64 0, .string x150002_1]) ?_ 2 _ rfl; (with_reducible repeat (first | refine blk_drewN ?_ _ | refine blk_drew ?_ | refine blk_alloc ?_ _)); refine blk_put (cs := #[.int .i64 x10_1, .int .i64 x150001_1, .string x150002_1]) ?_ 1 _ rfl; (with_reducible repeat (first | refine blk_drewN ?_ _ | refine blk_drew ?_ | refine blk_alloc ?_ _)); refine blk_put (cs := #[.int .i64 x150000_1, .int .i64 x150001_1, .string x150002_1]) ?_ 0 _ rfl; (with_reducible repeat (first | refine blk_drewN ?_ _ | refine blk_drew ?_ | refine blk_alloc ?_ _)); exact BK149.out⟩
                 have n3_ : Aside0 (Below w.heap.size w (((wc.setCell ⟨gb149, 0, none⟩ (.int .i64 x10_1)).setCell ⟨gb149, 1, none⟩ (.int .i64 0)).setCell ⟨gb149, 2, none⟩ (.string (⟨#[]⟩ : ByteArray)))) := ⟨by repeat (first | (with_reducible first | exact HB.out | apply below_alloc | apply pw_below_drewN | apply below_drew1 | refine below_set ?_ GE149.out) | exact HB.out)⟩
                 (try clear HO_5)
                 (try clear HO_7)
                 (try clear BK149)
                 (try clear HB)
                 generalize (((wc.setCell ⟨gb149, 0, none⟩ (.int .i64 x10_1)).setCell ⟨gb149, 1, none⟩ (.int .i64 0)).setCell ⟨gb149, 2, none⟩ (.string (⟨#[]⟩ : ByteArray))) = w69 at n0_ n1_ n2_ n3_ ⊢
                 have HO_5 := n0_
                 have HO_7 := n1_
                 have BK149 := n2_
                 have HB := n3_
                 clear n0_ n1_ n2_ n3_
                 have n0_ := Aside0.mk (Kd.R_drew HO_5.out)
                 have n1_ := Aside0.mk (Kd.R_drew HO_7.out)
                 have n2_ := Aside0.mk (blk_drew BK149.out)
                 have n3_ := Aside0.mk (below_drew1 HB.out)
                 clear HO_5
                 clear HO_7
                 clear BK149
                 clear HB
                 have HO_5 := n0_
                 have HO_7 := n1_
                 have BK149 := n2_
                 have HB := n3_
                 clear n0_ n1_ n2_ n3_
                 obtain ⟨Ao71, co71, eo71⟩ := Kd.R_slice HO_5.out
                 (first | subst eo71 | (injection eo71 with f1_ f2_ f3_; have f4_ := f1_.symm; have f5_ := f3_.symm; clear f1_ f2_ f3_; subst f4_; subst f5_))
                 have p158 : 0 ≤ ((ji61) : Int) := of_decide_eq_true (by first | (with_reducible assumption) | assumption)
                 have q158 : (ji61) < (t146.length : Int) := of_decide_eq_true (by first | (with_reducible assumption) | assumption)
                 obtain ⟨ad158, e158, hx158_0⟩ := Kd.at_int (Kd.R_reads' HO_5.out).2.2 (ji61) p158 q158
                 cases e158
                 replace p158 := eq_true p158
                 replace q158 := eq_true q158
                 have p159 : 0 ≤ ((ji64) : Int) := of_decide_eq_true (by first | (with_reducible assumption) | assumption)
                 have q159 : (ji64) < (t146.length : Int) := of_decide_eq_true (by first | (with_reducible assumption) | assumption)
                 obtain ⟨ad159, e159, hx159_0⟩ := Kd.at_int (Kd.R_reads' HO_5.out).2.2 (ji64) p159 q159
                 obtain rfl : ad158 = ad159 := (by injection e159)
                 replace p159 := eq_true p159
                 replace q159 := eq_true q159
                 refine start_ (n := 31) (S := fun w' => w'.cell? (ad158.add ((ji61)).toNat) = some (.int .i64 (rd t146 (ji61))) ∧ w'.cell? (ad158.add ((ji64)).toNat) = some (.int .i64 (rd t146 (ji64)))) (ds := []) #[false,false,false,false,false,false,false,false,false,false,false,false,false,false,false,false,false,false,false,false,false,false,false,false,false,false,false,false,false,false,false] (by kernel_rfl) rfl rfl ⟨hx158_0, hx159_0⟩ (fun hHeld => ?_); refine with_tabW emendateref06_Diff.tab16 emendateref06_Diff.bits16 (fun HT_ HW_ => ?_)
                 generalize w69.drew = w70 at HO_5 HO_7 BK149 HB hx158_0 hx159_0 hHeld ⊢
                 refine pure_ (i := 0) (N := some 61) (v := ?_) (a' := ?_) #[true,false,false,false,false,false,false,false,false,false,false,false,false,false,false,false,false,false,false,false,false,false,false,false,false,false,false,false,false,false,false] rfl rfl (any_of HT_.out (by kernel_rfl)) (fun _ _ _ h => h) (Or.inl ⟨by rfl, ?_⟩) ?_ ?_; rotate_left; · (intro w'; go_simp; with_reducible rfl)
                 rotate_left; · (simp only [Act.put, sq0_, sq1_, sq2_, i64_w, i32_w]; rfl)
                 refine pure_ (i := 1) (N := some 62) (v := ?_) (a' := ?_) #[true,true,false,false,false,false,false,false,false,false,false,false,false,false,false,false,false,false,false,false,false,false,false,false,false,false,false,false,false,false,false] rfl rfl (any_of HT_.out (by kernel_rfl)) (fun _ _ _ h => h) (Or.inl ⟨by rfl, ?_⟩) ?_ ?_; rotate_left; · (intro w'; go_simp; with_reducible rfl)
                 rotate_left; · (simp only [Act.put, sq0_, sq1_, sq2_, i64_w, i32_w]; rfl)
                 refine pure_ (i := 2) (N := some 63) (v := ?_) (a' := ?_) #[true,true,true,false,false,false,false,false,false,false,false,false,false,false,false,false,false,false,false,false,false,false,false,false,false,false,false,false,false,false,false] rfl rfl (any_of HT_.out (by kernel_rfl)) (fun _ _ _ h => h) (Or.inl ⟨by rfl, ?_⟩) ?_ ?_; rotate_left; · (intro w'; go_simp; with_reducible rfl)
                 rotate_left; · (simp only [Act.put, sq0_, sq1_, sq2_, i64_w, i32_w]; rfl)
                 refine pure_ (i := 3) (N := some 64) (v := ?_) (a' := ?_) #[true,true,true,true,false,false,false,false,false,false,false,false,false,false,false,false,false,false,false,false,false,false,false,false,false,false,false,false,false,false,false] rfl rfl (any_of HT_.out (by kernel_rfl)) (fun _ _ _ h => h) (Or.inl ⟨by rfl, ?_⟩) ?_ ?_; rotate_left; · (intro w'; go_simp; with_reducible rfl)
                 rotate_left; · (simp only [Act.put, sq0_, sq1_, sq2_, i64_w, i32_w]; rfl)
                 refine pure_ (i := 4) (N := some 65) (v := ?_) (a' := ?_) #[true,true,true,true,true,false,false,false,false,false,false,false,false,false,false,false,false,false,false,false,false,false,false,false,false,false,false,false,false,false,false] rfl rfl (any_of HT_.out (by kernel_rfl)) (fun _ _ _ h => h) (Or.inl ⟨by rfl, ?_⟩) ?_ ?_; rotate_left; · (intro w'; go_simp; with_reducible rfl)
                 rotate_left; · (simp only [Act.put, sq0_, sq1_, sq2_, i64_w, i32_w]; rfl)
                 refine pure_ (i := 5) (N := some 66) (v := ?_) (a' := ?_) #[true,true,true,true,true,true,false,false,false,false,false,false,false,false,false,false,false,false,false,false,false,false,false,false,false,false,false,false,false,false,false] rfl rfl (any_of HT_.out (by kernel_rfl)) (fun _ _ _ h => h) (Or.inl ⟨by rfl, ?_⟩) ?_ ?_; rotate_left; · (intro w'; go_simp; with_reducible rfl)
                 rotate_left; · (simp only [Act.put, sq0_, sq1_, sq2_, i64_w, i32_w]; rfl)
                 refine pure_ (i := 6) (N := some 67) (v := ?_) (a' := ?_) #[true,true,true,true,true,true,true,false,false,false,false,false,false,false,false,false,false,false,false,false,false,false,false,false,false,false,false,false,false,false,false] rfl rfl (any_of HT_.out (by kernel_rfl)) (fun _ _ _ h => h) (Or.inl ⟨by rfl, ?_⟩) ?_ ?_; rotate_left; · (intro w'; go_simp; with_reducible rfl)
                 rotate_left; · (simp only [Act.put, sq0_, sq1_, sq2_, i64_w, i32_w]; rfl)
                 refine pure_ (i := 7) (N := some 68) (v := ?_) (a' := ?_) #[true,true,true,true,true,true,true,true,false,false,false,false,false,false,false,false,false,false,false,false,false,false,false,false,false,false,false,false,false,false,false] rfl rfl (any_of HT_.out (by kernel_rfl)) (fun _ _ _ h => h) (Or.inl ⟨by rfl, ?_⟩) ?_ ?_; rotate_left; · (intro w'; go_simp; with_reducible rfl)
                 rotate_left; · (simp only [Act.put, sq0_, sq1_, sq2_, i64_w, i32_w]; rfl)
                 refine pure_ (i := 8) (N := some 69) (v := ?_) (a' := ?_) #[true,true,true,true,true,true,true,true,true,false,false,false,false,false,false,false,false,false,false,false,false,false,false,false,false,false,false,false,false,false,false] rfl rfl (any_of HT_.out (by kernel_rfl)) (fun _ _ _ h => h) (Or.inl ⟨by rfl, ?_⟩) ?_ ?_; rotate_left; · (intro w'; go_simp; with_reducible rfl)
                 rotate_left; · (simp only [Act.put, sq0_, sq1_, sq2_, i64_w, i32_w]; rfl)
                 refine pure_ (i := 9) (N := some 70) (v := ?_) (a' := ?_) #[true,true,true,true,true,true,true,true,true,true,false,false,false,false,false,false,false,false,false,false,false,false,false,false,false,false,false,false,false,false,false] rfl rfl (any_of HT_.out (by kernel_rfl)) (fun _ _ _ h => h) (Or.inl ⟨by rfl, ?_⟩) ?_ ?_; rotate_left; · (intro w'; go_simp; with_reducible rfl)
                 rotate_left; · (simp only [Act.put, sq0_, sq1_, sq2_, i64_w, i32_w]; rfl)
                 refine pure_ (i := 10) (N := some 71) (v := ?_) (a' := ?_) #[true,true,true,true,true,true,true,true,true,true,true,false,false,false,false,false,false,false,false,false,false,false,false,false,false,false,false,false,false,false,false] rfl rfl (any_of HT_.out (by kernel_rfl)) (fun _ _ _ h => h) (Or.inl ⟨by rfl, ?_⟩) ?_ ?_; rotate_left; · (intro w'; go_simp; with_reducible rfl)
                 rotate_left; · (simp only [Act.put, sq0_, sq1_, sq2_, i64_w, i32_w]; rfl)
                 refine pure_ (i := 11) (N := some 72) (v := ?_) (a' := ?_) #[true,true,true,true,true,true,true,true,true,true,true,true,false,false,false,false,false,false,false,false,false,false,false,false,false,false,false,false,false,false,false] rfl rfl (any_of HT_.out (by kernel_rfl)) (fun _ _ _ h => h) (Or.inl ⟨by rfl, ?_⟩) ?_ ?_; rotate_left; · (intro w'; go_simp; with_reducible rfl)
                 rotate_left; · (simp only [Act.put, sq0_, sq1_, sq2_, i64_w, i32_w]; rfl)
                 refine pure_ (i := 12) (N := some 73) (v := ?_) (a' := ?_) #[true,true,true,true,true,true,true,true,true,true,true,true,true,false,false,false,false,false,false,false,false,false,false,false,false,false,false,false,false,false,false] rfl rfl (any_of HT_.out (by kernel_rfl)) (fun _ _ _ h => h) (Or.inl ⟨by rfl, ?_⟩) ?_ ?_; rotate_left; · (intro w'; go_simp; with_reducible rfl)
                 rotate_left; · (simp only [Act.put, sq0_, sq1_, sq2_, i64_w, i32_w]; rfl)
                 refine pure_ (i := 13) (N := some 74) (v := ?_) (a' := ?_) #[true,true,true,true,true,true,true,true,true,true,true,true,true,true,false,false,false,false,false,false,false,false,false,false,false,false,false,false,false,false,false] rfl rfl (any_of HT_.out (by kernel_rfl)) (fun _ _ _ h => h) (Or.inl ⟨by rfl, ?_⟩) ?_ ?_; rotate_left; · (intro w'; go_simp; with_reducible rfl)
                 rotate_left; · (simp only [Act.put, sq0_, sq1_, sq2_, i64_w, i32_w]; rfl)
                 refine pure_ (i := 14) (N := some 75) (v := ?_) (a' := ?_) #[true,true,true,true,true,true,true,true,true,true,true,true,true,true,true,false,false,false,false,false,false,false,false,false,false,false,false,false,false,false,false] rfl rfl (any_of HT_.out (by kernel_rfl)) (fun _ _ _ h => h) (Or.inl ⟨by rfl, ?_⟩) ?_ ?_; rotate_left; · (intro w'; go_simp; with_reducible rfl)
                 rotate_left; · (simp only [Act.put, sq0_, sq1_, sq2_, i64_w, i32_w]; rfl)
                 refine pure_ (i := 15) (N := some 76) (v := ?_) (a' := ?_) #[true,true,true,true,true,true,true,true,true,true,true,true,true,true,true,true,false,false,false,false,false,false,false,false,false,false,false,false,false,false,false] rfl rfl (any_of HT_.out (by kernel_rfl)) (fun _ _ _ h => h) (Or.inl ⟨by rfl, ?_⟩) ?_ ?_; rotate_left; · (intro w'; go_simp; with_reducible rfl)
                 rotate_left; · (simp only [Act.put, sq0_, sq1_, sq2_, i64_w, i32_w]; rfl)
                 refine pure_ (i := 16) (N := some 77) (v := ?_) (a' := ?_) #[true,true,true,true,true,true,true,true,true,true,true,true,true,true,true,true,true,false,false,false,false,false,false,false,false,false,false,false,false,false,false] rfl rfl (any_of HT_.out (by kernel_rfl)) (fun _ _ _ h => h) (Or.inl ⟨by rfl, ?_⟩) ?_ ?_; rotate_left; · (intro w'; go_simp; with_reducible rfl)
                 rotate_left; · (simp only [Act.put, sq0_, sq1_, sq2_, i64_w, i32_w]; rfl)
                 refine pure_ (i := 17) (N := some 78) (v := ?_) (a' := ?_) #[true,true,true,true,true,true,true,true,true,true,true,true,true,true,true,true,true,true,false,false,false,false,false,false,false,false,false,false,false,false,false] rfl rfl (any_of HT_.out (by kernel_rfl)) (fun _ _ _ h => h) (Or.inl ⟨by rfl, ?_⟩) ?_ ?_; rotate_left; · (intro w'; go_simp; with_reducible rfl)
                 rotate_left; · (simp only [Act.put, sq0_, sq1_, sq2_, i64_w, i32_w]; rfl)
                 refine pure_ (i := 19) (N := some 80) (v := ?_) (a' := ?_) #[true,true,true,true,true,true,true,true,true,true,true,true,true,true,true,true,true,true,false,true,false,false,false,false,false,false,false,false,false,false,false] rfl rfl (any_of HT_.out (by kernel_rfl)) (fun _ _ _ h => h) (Or.inl ⟨by rfl, ?_⟩) ?_ ?_; rotate_left; · (intro w'; go_simp; with_reducible rfl)
                 rotate_left; · (simp only [Act.put, sq0_, sq1_, sq2_, i64_w, i32_w]; rfl)
                 refine pure_ (i := 20) (N := some 81) (v := ?_) (a' := ?_) #[true,true,true,true,true,true,true,true,true,true,true,true,true,true,true,true,true,true,false,true,true,false,false,false,false,false,false,false,false,false,false] rfl rfl (any_of HT_.out (by kernel_rfl)) (fun _ _ _ h => h) (Or.inl ⟨by rfl, ?_⟩) ?_ ?_; rotate_left; · (intro w'; go_simp; with_reducible rfl)
                 rotate_left; · (simp only [Act.put, sq0_, sq1_, sq2_, i64_w, i32_w]; rfl)
                 refine pure_ (i := 21) (N := some 82) (v := ?_) (a' := ?_) #[true,true,true,true,true,true,true,true,true,true,true,true,true,true,true,true,true,true,false,true,true,true,false,false,false,false,false,false,false,false,false] rfl rfl (any_of HT_.out (by kernel_rfl)) (fun _ _ _ h => h) (Or.inl ⟨by rfl, ?_⟩) ?_ ?_; rotate_left; · (intro w'; go_simp; with_reducible rfl)
                 rotate_left; · (simp only [Act.put, sq0_, sq1_, sq2_, i64_w, i32_w]; rfl)
                 refine pure_ (i := 22) (N := some 83) (v := ?_) (a' := ?_) #[true,true,true,true,true,true,true,true,true,true,true,true,true,true,true,true,true,true,false,true,true,true,true,false,false,false,false,false,false,false,false] rfl rfl (any_of HT_.out (by kernel_rfl)) (fun _ _ _ h => h) (Or.inl ⟨by rfl, ?_⟩) ?_ ?_; rotate_left; · (intro w'; go_simp; with_reducible rfl)
                 rotate_left; · (simp only [Act.put, sq0_, sq1_, sq2_, i64_w, i32_w]; rfl)
                 refine pure_ (i := 23) (N := some 84) (v := ?_) (a' := ?_) #[true,true,true,true,true,true,true,true,true,true,true,true,true,true,true,true,true,true,false,true,true,true,true,true,false,false,false,false,false,false,false] rfl rfl (any_of HT_.out (by kernel_rfl)) (fun _ _ _ h => h) (Or.inl ⟨by rfl, ?_⟩) ?_ ?_; rotate_left; · (intro w'; go_simp; with_reducible rfl)
                 rotate_left; · (simp only [Act.put, sq0_, sq1_, sq2_, i64_w, i32_w]; rfl)
                 refine pure_ (i := 24) (N := some 85) (v := ?_) (a' := ?_) #[true,true,true,true,true,true,true,true,true,true,true,true,true,true,true,true,true,true,false,true,true,true,true,true,true,false,false,false,false,false,false] rfl rfl (any_of HT_.out (by kernel_rfl)) (fun _ _ _ h => h) (Or.inl ⟨by rfl, ?_⟩) ?_ ?_; rotate_left; · (intro w'; go_simp; with_reducible rfl)
                 rotate_left; · (simp only [Act.put, sq0_, sq1_, sq2_, i64_w, i32_w]; rfl)
                 refine pure_ (i := 25) (N := some 86) (v := ?_) (a' := ?_) #[true,true,true,true,true,true,true,true,true,true,true,true,true,true,true,true,true,true,false,true,true,true,true,true,true,true,false,false,false,false,false] rfl rfl (any_of HT_.out (by kernel_rfl)) (fun _ _ _ h => h) (Or.inl ⟨by rfl, ?_⟩) ?_ ?_; rotate_left; · (intro w'; go_simp; with_reducible rfl)
                 rotate_left; · (simp only [Act.put, sq0_, sq1_, sq2_, i64_w, i32_w]; rfl)
                 refine pure_ (i := 26) (N := some 87) (v := ?_) (a' := ?_) #[true,true,true,true,true,true,true,true,true,true,true,true,true,true,true,true,true,true,false,true,true,true,true,true,true,true,true,false,false,false,false] rfl rfl (any_of HT_.out (by kernel_rfl)) (fun _ _ _ h => h) (Or.inl ⟨by rfl, ?_⟩) ?_ ?_; rotate_left; · (intro w'; go_simp; with_reducible rfl)
                 rotate_left; · (simp only [Act.put, sq0_, sq1_, sq2_, i64_w, i32_w]; rfl)
                 refine take_ (i := 18) (N := some 79) (v := ?_) (a' := ?_) #[true,true,true,true,true,true,true,true,true,true,true,true,true,true,true,true,true,true,true,true,true,true,true,true,true,true,true,false,false,false,false] rfl rfl (take_ofW HT_.out HW_.out (by kernel_rfl)) (fun _ _ _ h => h) (Or.inl ⟨by rfl, ?_⟩) hHeld ?_ ?_
                 rotate_left
                 ·
                  rintro w' ⟨s0, s1⟩
                  go_simp
                  with_reducible rfl
                 rotate_left
                 ·
                  simp only [Act.put, sq0_, sq1_, sq2_, i64_w, i32_w]
                  rfl
                 refine take_ (i := 27) (N := some 88) (v := ?_) (a' := ?_) #[true,true,true,true,true,true,true,true,true,true,true,true,true,true,true,true,true,true,true,true,true,true,true,true,true,true,true,true,false,false,false] rfl rfl (take_ofW HT_.out HW_.out (by kernel_rfl)) (fun _ _ _ h => h) (Or.inl ⟨by rfl, ?_⟩) hHeld ?_ ?_
                 rotate_left
                 ·
                  rintro w' ⟨s0, s1⟩
                  go_simp
                  with_reducible rfl
                 rotate_left
                 ·
                  simp only [Act.put, sq0_, sq1_, sq2_, i64_w, i32_w]
                  rfl
                 refine pure_ (i := 28) (N := some 89) (v := ?_) (a' := ?_) #[true,true,true,true,true,true,true,true,true,true,true,true,true,true,true,true,true,true,true,true,true,true,true,true,true,true,true,true,true,false,false] rfl rfl (any_of HT_.out (by kernel_rfl)) (fun _ _ _ h => h) (Or.inl ⟨by rfl, ?_⟩) ?_ ?_; rotate_left; · (intro w'; go_simp; with_reducible rfl)
                 rotate_left; · (simp only [Act.put, sq0_, sq1_, sq2_, i64_w, i32_w]; rfl)
                 refine pure_ (i := 29) (N := some 90) (v := ?_) (a' := ?_) #[true,true,true,true,true,true,true,true,true,true,true,true,true,true,true,true,true,true,true,true,true,true,true,true,true,true,true,true,true,true,false] rfl rfl (any_of HT_.out (by kernel_rfl)) (fun _ _ _ h => h) (Or.inl ⟨by rfl, ?_⟩) ?_ ?_; rotate_left; · (intro w'; go_simp; with_reducible rfl)
                 rotate_left; · (simp only [Act.put, sq0_, sq1_, sq2_, i64_w, i32_w]; rfl)
                 refine pure_ (i := 30) (N := some 91) (v := ?_) (a' := ?_) #[true,true,true,true,true,true,true,true,true,true,true,true,true,true,true,true,true,true,true,true,true,true,true,true,true,true,true,true,true,true,true] rfl rfl (any_of HT_.out (by kernel_rfl)) (fun _ _ _ h => h) (Or.inl ⟨by rfl, ?_⟩) ?_ ?_; rotate_left; · (intro w'; go_simp; with_reducible rfl)
                 rotate_left; · (simp only [Act.put, sq0_, sq1_, sq2_, i64_w, i32_w]; rfl)
                 refine done_ (done_of HT_.out (by kernel_rfl)) ?_
                 have hcz72_0 : w70.cell? ⟨gb149, 0, none⟩ = some (.int .i64 x10_1) := (blk_cell BK149.out 0).trans rfl
                 have hcz72_1 : w70.cell? ⟨gb149, 1, none⟩ = some (.int .i64 0) := (blk_cell BK149.out 1).trans rfl
                 have hcz72_2 : w70.cell? ⟨gb149, 2, none⟩ = some (.string (⟨#[]⟩ : ByteArray)) := (blk_cell BK149.out 2).trans rfl
                 have hfz72_0 := blk_frozen BK149.out 0
                 have hfz72_1 := blk_frozen BK149.out 1
                 have hfz72_2 := blk_frozen BK149.out 2
                 try go_wp2
                 go_roundg kj9
                 case measure => have := HK1.out; have := HJ6.out; have := HJ9.out; omega
                 case rel => exact ⟨(x7_1), (true), (wrap64 (x10_1 + 1)), (x11_1), (x10_1), 1, ((⟨#[]⟩ : ByteArray)), (by first | rfl | (simp; done) | (simp [*]; done)), (by first | rfl | (simp; done) | (simp [*]; done)), (by first | rfl | (simp; done) | (simp [*]; done)), H', ⟨by have := HK1.out; have := HJ6.out; have := HJ9.out; omega⟩, ⟨by (with_reducible repeat (first | apply Kd.R_alloc | apply Kd.R_drewN | apply Kd.R_drew)); exact Kd.R_mono (Kd.R_far (p := ⟨gb149, 1, none⟩) (Kd.R_types HO_5.out BK149.out (by decide)) (fun _ hk => hk.2) (.int .i64 1)) (fun _ hk => trivial)⟩, ⟨by (with_reducible repeat (first | apply Kd.R_alloc | apply Kd.R_drewN | apply Kd.R_drew)); exact Kd.R_mono (Kd.R_far (p := ⟨gb149, 1, none⟩) (Kd.R_mono HO_7.out (fun k_ hk => (⟨hk, hk⟩ : _ ∧ k_ ≠ gb149))) (fun _ hk => hk.2) (.int .i64 1)) (fun _ hk => hk.1)⟩, ⟨by (with_reducible repeat (first | refine blk_drewN ?_ _ | refine blk_drew ?_ | refine blk_alloc ?_ _)); refine blk_put (cs := #[.int .i64 x10_1, .int .i64 0, .string (⟨#[]⟩ : ByteArray)]) ?_ 1 _ rfl; (with_reducible repeat (first | refine blk_drewN ?_ _ | refine blk_drew ?_ | refine blk_alloc ?_ _)); exact BK149.out⟩, ⟨by repeat (first | (with_reducible first | exact HB.out | apply below_alloc | apply pw_below_drewN | apply below_drew1 | refine below_set ?_ GE149.out) | exact HB.out)⟩⟩
                ·
                 rw [if_neg c67] at H
                 have c67b0 : decide ((rd t146 (ji61)) ≤ (rd t146 (ji64))) = false := decide_eq_false c67
                 clear c67
                 by_cases c73 : 0 ≤ x11_1
                 ·
                  rw [if_pos c73] at H
                  have c73b0 := eq_true c73
                  try (have c73n := c73; simp only [ByteArray.size_append, ByteArray.size_extract, Nat.min_self, Nat.zero_add] at c73n; (repeat (rw [Nat.min_eq_left] at c73n; rotate_left; (refine Int.toNat_le.2 ?_; exact of_decide_eq_true (by first | (with_reducible assumption) | assumption)))); (try simp only [Nat.sub_zero] at c73n); (first | have c73nf := eq_false (Nat.not_lt.2 c73n) | have c73nf := eq_false (Int.not_lt.2 c73n) | skip); replace c73n := eq_true c73n)
                  have c73b1 : decide (0 ≤ x11_1) = true := decide_eq_true c73
                  clear c73
                  by_cases c74 : x11_1 ≤ (wrap64 (x11_1 + 1))
                  ·
                   rw [if_pos c74] at H
                   have c74b0 := eq_true c74
                   try (have c74n := c74; simp only [ByteArray.size_append, ByteArray.size_extract, Nat.min_self, Nat.zero_add] at c74n; (repeat (rw [Nat.min_eq_left] at c74n; rotate_left; (refine Int.toNat_le.2 ?_; exact of_decide_eq_true (by first | (with_reducible assumption) | assumption)))); (try simp only [Nat.sub_zero] at c74n); (first | have c74nf := eq_false (Nat.not_lt.2 c74n) | have c74nf := eq_false (Int.not_lt.2 c74n) | skip); replace c74n := eq_true c74n)
                   have c74b1 : decide (x11_1 ≤ (wrap64 (x11_1 + 1))) = true := decide_eq_true c74
                   by_cases c75 : (wrap64 (x11_1 + 1)) ≤ (a1.size : Int)
                   ·
                    rw [if_pos c75] at H
                    have c75b0 := eq_true c75
                    try (have c75n := c75; simp only [ByteArray.size_append, ByteArray.size_extract, Nat.min_self, Nat.zero_add] at c75n; (repeat (rw [Nat.min_eq_left] at c75n; rotate_left; (refine Int.toNat_le.2 ?_; exact of_decide_eq_true (by first | (with_reducible assumption) | assumption)))); (try simp only [Nat.sub_zero] at c75n); (first | have c75nf := eq_false (Nat.not_lt.2 c75n) | have c75nf := eq_false (Int.not_lt.2 c75n) | skip); replace c75n := eq_true c75n)
                    have c75b1 : decide ((wrap64 (x11_1 + 1)) ≤ (a1.size : Int)) = true := decide_eq_true c75
                    by_cases c76 : 0 + (a1.extract (x11_1 : Int).toNat ((wrap64 (x11_1 + 1)) : Int).toNat).size ≤ 9223372036854775807
                    ·
                     rw [if_pos c76] at H
                     have c76b0 := eq_true c76
                     try (have c76n := c76; simp only [ByteArray.size_append, ByteArray.size_extract, Nat.min_self, Nat.zero_add] at c76n; (repeat (rw [Nat.min_eq_left] at c76n; rotate_left; (refine Int.toNat_le.2 ?_; exact of_decide_eq_true (by first | (with_reducible assumption) | assumption)))); (try simp only [Nat.sub_zero] at c76n); (first | have c76nf := eq_false (Nat.not_lt.2 c76n) | have c76nf := eq_false (Int.not_lt.2 c76n) | skip); replace c76n := eq_true c76n)
                     have c76b1 : decide (0 + (a1.extract (x11_1 : Int).toNat ((wrap64 (x11_1 + 1)) : Int).toNat).size ≤ 9223372036854775807) = true := decide_eq_true c76
                     try (have c76b1z := c76b1; simp only [ByteArray.size_append, ByteArray.size_extract, Nat.min_self, Nat.zero_add] at c76b1z; (repeat (rw [Nat.min_eq_left] at c76b1z; rotate_left; (refine Int.toNat_le.2 ?_; exact of_decide_eq_true (by first | (with_reducible assumption) | assumption)))); (try simp only [Nat.sub_zero] at c76b1z))
                     try have c76b2 : (9223372036854775807 < 0 + (a1.extract (x11_1 : Int).toNat ((wrap64 (x11_1 + 1)) : Int).toNat).size) = False := eq_false (Nat.not_lt.2 c76)
                     have H' := Aside0.mk H
                     clear H
                     have hcz77_0 : wc.cell? ⟨gb149, 0, none⟩ = some (.int .i64 x150000_1) := (blk_cell BK149.out 0).trans rfl
                     have hcz77_1 : wc.cell? ⟨gb149, 1, none⟩ = some (.int .i64 x150001_1) := (blk_cell BK149.out 1).trans rfl
                     have hcz77_2 : wc.cell? ⟨gb149, 2, none⟩ = some (.string x150002_1) := (blk_cell BK149.out 2).trans rfl
                     have hfz77_0 := blk_frozen BK149.out 0
                     have hfz77_1 := blk_frozen BK149.out 1
                     have hfz77_2 := blk_frozen BK149.out 2
                     try go_wp2
                     have n0_ : Aside0 (Kd.R (Kd.int .i64) 3 (((wc.setCell ⟨gb149, 0, none⟩ (.int .i64 x10_1)).setCell ⟨gb149, 1, none⟩ (.int .i64 0)).setCell ⟨gb149, 2, none⟩ (.string (⟨#[]⟩ : ByteArray))) w.heap.size (fun _ => True) v147 t146) := ⟨by (with_reducible repeat (first | apply Kd.R_alloc | apply Kd.R_drewN | apply Kd.R_drew)); exact Kd.R_mono (Kd.R_far (p := ⟨gb149, 2, none⟩) (Kd.R_far (p := ⟨gb149, 1, none⟩) (Kd.R_far (p := ⟨gb149, 0, none⟩) (Kd.R_types HO_5.out BK149.out (by decide)) (fun _ hk => hk.2) (.int .i64 x10_1)) (fun _ hk => hk.2) (.int .i64 0)) (fun _ hk => hk.2) (.string (⟨#[]⟩ : ByteArray))) (fun _ hk => trivial)⟩
                     have n1_ : Aside0 (Kd.R k30 30 (((wc.setCell ⟨gb149, 0, none⟩ (.int .i64 x10_1)).setCell ⟨gb149, 1, none⟩ (.int .i64 0)).setCell ⟨gb149, 2, none⟩ (.string (⟨#[]⟩ : ByteArray))) w.heap.size (fun k_ => k_ ≠ gb149) u7 x7_1) := ⟨by (with_reducible repeat (first | apply Kd.R_alloc | apply Kd.R_drewN | apply Kd.R_drew)); exact Kd.R_mono (Kd.R_far (p := ⟨gb149, 2, none⟩) (Kd.R_far (p := ⟨gb149, 1, none⟩) (Kd.R_far (p := ⟨gb149, 0, none⟩) (Kd.R_mono HO_7.out (fun k_ hk => (⟨hk, hk⟩ : _ ∧ k_ ≠ gb149))) (fun _ hk => hk.2) (.int .i64 x10_1)) (fun _ hk => hk.2) (.int .i64 0)) (fun _ hk => hk.2) (.string (⟨#[]⟩ : ByteArray))) (fun _ hk => hk.1)⟩
                     have n2_ : Aside0 ((((wc.setCell ⟨gb149, 0, none⟩ (.int .i64 x10_1)).setCell ⟨gb149, 1, none⟩ (.int .i64 0)).setCell ⟨gb149, 2, none⟩ (.string (⟨#[]⟩ : ByteArray))).heap[gb149]? = some (.cells #[.int .i64 x10_1, .int .i64 0, .string (⟨#[]⟩ : ByteArray)] 30 (0, 0))) := ⟨by (with_reducible repeat (first | refine blk_drewN ?_ _ | refine blk_drew ?_ | refine blk_alloc ?_ _)); refine blk_put (cs := #[.int .i64 x10_1, .int .i64 0, .string x150002_1]) ?_ 2 _ rfl; (with_reducible repeat (first | refine blk_drewN ?_ _ | refine blk_drew ?_ | refine blk_alloc ?_ _)); refine blk_put (cs := #[.int .i64 x10_1, .int .i64 x150001_1, .string x150002_1]) ?_ 1 _ rfl; (with_reducible repeat (first | refine blk_drewN ?_ _ | refine blk_drew ?_ | refine blk_alloc ?_ _)); refine blk_put (cs := #[.int .i64 x150000_1, .int .i64 x150001_1, .string x150002_1]) ?_ 0 _ rfl; (with_reducible repeat (first | refine blk_drewN ?_ _ | refine blk_drew ?_ | refine blk_alloc ?_ _)); exact BK149.out⟩
                     have n3_ : Aside0 (Below w.heap.size w (((wc.setCell ⟨gb149, 0, none⟩ (.int .i64 x10_1)).setCell ⟨gb149, 1, none⟩ (.int .i64 0)).setCell ⟨gb149, 2, none⟩ (.string (⟨#[]⟩ : ByteArray)))) := ⟨by repeat (first | (with_reducible first | exact HB.out | apply below_alloc | apply pw_below_drewN | apply below_drew1 | refine below_set ?_ GE149.out) | exact HB.out)⟩
                     (try clear HO_5)
                     (try clear HO_7)
                     (try clear BK149)
                     (try clear HB)
                     generalize (((wc.setCell ⟨gb149, 0, none⟩ (.int .i64 x10_1)).setCell ⟨gb149, 1, none⟩ (.int .i64 0)).setCell ⟨gb149, 2, none⟩ (.string (⟨#[]⟩ : ByteArray))) = w78 at n0_ n1_ n2_ n3_ ⊢
                     have HO_5 := n0_
                     have HO_7 := n1_
                     have BK149 := n2_
                     have HB := n3_
                     clear n0_ n1_ n2_ n3_
                     have n0_ := Aside0.mk (Kd.R_drew HO_5.out)
                     have n1_ := Aside0.mk (Kd.R_drew HO_7.out)
                     have n2_ := Aside0.mk (blk_drew BK149.out)
                     have n3_ := Aside0.mk (below_drew1 HB.out)
                     clear HO_5
                     clear HO_7
                     clear BK149
                     clear HB
                     have HO_5 := n0_
                     have HO_7 := n1_
                     have BK149 := n2_
                     have HB := n3_
                     clear n0_ n1_ n2_ n3_
                     obtain ⟨Ao80, co80, eo80⟩ := Kd.R_slice HO_5.out
                     (first | subst eo80 | (injection eo80 with f1_ f2_ f3_; have f4_ := f1_.symm; have f5_ := f3_.symm; clear f1_ f2_ f3_; subst f4_; subst f5_))
                     have p158 : 0 ≤ ((ji61) : Int) := of_decide_eq_true (by first | (with_reducible assumption) | assumption)
                     have q158 : (ji61) < (t146.length : Int) := of_decide_eq_true (by first | (with_reducible assumption) | assumption)
                     obtain ⟨ad158, e158, hx158_0⟩ := Kd.at_int (Kd.R_reads' HO_5.out).2.2 (ji61) p158 q158
                     cases e158
                     replace p158 := eq_true p158
                     replace q158 := eq_true q158
                     have p159 : 0 ≤ ((ji64) : Int) := of_decide_eq_true (by first | (with_reducible assumption) | assumption)
                     have q159 : (ji64) < (t146.length : Int) := of_decide_eq_true (by first | (with_reducible assumption) | assumption)
                     obtain ⟨ad159, e159, hx159_0⟩ := Kd.at_int (Kd.R_reads' HO_5.out).2.2 (ji64) p159 q159
                     obtain rfl : ad158 = ad159 := (by injection e159)
                     replace p159 := eq_true p159
                     replace q159 := eq_true q159
                     refine start_ (n := 31) (S := fun w' => w'.cell? (ad158.add ((ji61)).toNat) = some (.int .i64 (rd t146 (ji61))) ∧ w'.cell? (ad158.add ((ji64)).toNat) = some (.int .i64 (rd t146 (ji64)))) (ds := []) #[false,false,false,false,false,false,false,false,false,false,false,false,false,false,false,false,false,false,false,false,false,false,false,false,false,false,false,false,false,false,false] (by kernel_rfl) rfl rfl ⟨hx158_0, hx159_0⟩ (fun hHeld => ?_); refine with_tabW emendateref06_Diff.tab16 emendateref06_Diff.bits16 (fun HT_ HW_ => ?_)
                     generalize w78.drew = w79 at HO_5 HO_7 BK149 HB hx158_0 hx159_0 hHeld ⊢
                     refine pure_ (i := 0) (N := some 61) (v := ?_) (a' := ?_) #[true,false,false,false,false,false,false,false,false,false,false,false,false,false,false,false,false,false,false,false,false,false,false,false,false,false,false,false,false,false,false] rfl rfl (any_of HT_.out (by kernel_rfl)) (fun _ _ _ h => h) (Or.inl ⟨by rfl, ?_⟩) ?_ ?_; rotate_left; · (intro w'; go_simp; with_reducible rfl)
                     rotate_left; · (simp only [Act.put, sq0_, sq1_, sq2_, i64_w, i32_w]; rfl)
                     refine pure_ (i := 1) (N := some 62) (v := ?_) (a' := ?_) #[true,true,false,false,false,false,false,false,false,false,false,false,false,false,false,false,false,false,false,false,false,false,false,false,false,false,false,false,false,false,false] rfl rfl (any_of HT_.out (by kernel_rfl)) (fun _ _ _ h => h) (Or.inl ⟨by rfl, ?_⟩) ?_ ?_; rotate_left; · (intro w'; go_simp; with_reducible rfl)
                     rotate_left; · (simp only [Act.put, sq0_, sq1_, sq2_, i64_w, i32_w]; rfl)
                     refine pure_ (i := 2) (N := some 63) (v := ?_) (a' := ?_) #[true,true,true,false,false,false,false,false,false,false,false,false,false,false,false,false,false,false,false,false,false,false,false,false,false,false,false,false,false,false,false] rfl rfl (any_of HT_.out (by kernel_rfl)) (fun _ _ _ h => h) (Or.inl ⟨by rfl, ?_⟩) ?_ ?_; rotate_left; · (intro w'; go_simp; with_reducible rfl)
                     rotate_left; · (simp only [Act.put, sq0_, sq1_, sq2_, i64_w, i32_w]; rfl)
                     refine pure_ (i := 3) (N := some 64) (v := ?_) (a' := ?_) #[true,true,true,true,false,false,false,false,false,false,false,false,false,false,false,false,false,false,false,false,false,false,false,false,false,false,false,false,false,false,false] rfl rfl (any_of HT_.out (by kernel_rfl)) (fun _ _ _ h => h) (Or.inl ⟨by rfl, ?_⟩) ?_ ?_; rotate_left; · (intro w'; go_simp; with_reducible rfl)
                     rotate_left; · (simp only [Act.put, sq0_, sq1_, sq2_, i64_w, i32_w]; rfl)
                     refine pure_ (i := 4) (N := some 65) (v := ?_) (a' := ?_) #[true,true,true,true,true,false,false,false,false,false,false,false,false,false,false,false,false,false,false,false,false,false,false,false,false,false,false,false,false,false,false] rfl rfl (any_of HT_.out (by kernel_rfl)) (fun _ _ _ h => h) (Or.inl ⟨by rfl, ?_⟩) ?_ ?_; rotate_left; · (intro w'; go_simp; with_reducible rfl)
                     rotate_left; · (simp only [Act.put, sq0_, sq1_, sq2_, i64_w, i32_w]; rfl)
                     refine pure_ (i := 5) (N := some 66) (v := ?_) (a' := ?_) #[true,true,true,true,true,true,false,false,false,false,false,false,false,false,false,false,false,false,false,false,false,false,false,false,false,false,false,false,false,false,false] rfl rfl (any_of HT_.out (by kernel_rfl)) (fun _ _ _ h => h) (Or.inl ⟨by rfl, ?_⟩) ?_ ?_; rotate_left; · (intro w'; go_simp; with_reducible rfl)
                     rotate_left; · (simp only [Act.put, sq0_, sq1_, sq2_, i64_w, i32_w]; rfl)
                     refine pure_ (i := 6) (N := some 67) (v := ?_) (a' := ?_) #[true,true,true,true,true,true,true,false,false,false,false,false,false,false,false,false,false,false,false,false,false,false,false,false,false,false,false,false,false,false,false] rfl rfl (any_of HT_.out (by kernel_rfl)) (fun _ _ _ h => h) (Or.inl ⟨by rfl, ?_⟩) ?_ ?_; rotate_left; · (intro w'; go_simp; with_reducible rfl)
                     rotate_left; · (simp only [Act.put, sq0_, sq1_, sq2_, i64_w, i32_w]; rfl)
                     refine pure_ (i := 7) (N := some 68) (v := ?_) (a' := ?_) #[true,true,true,true,true,true,true,true,false,false,false,false,false,false,false,false,false,false,false,false,false,false,false,false,false,false,false,false,false,false,false] rfl rfl (any_of HT_.out (by kernel_rfl)) (fun _ _ _ h => h) (Or.inl ⟨by rfl, ?_⟩) ?_ ?_; rotate_left; · (intro w'; go_simp; with_reducible rfl)
                     rotate_left; · (simp only [Act.put, sq0_, sq1_, sq2_, i64_w, i32_w]; rfl)
                     refine pure_ (i := 8) (N := some 69) (v := ?_) (a' := ?_) #[true,true,true,true,true,true,true,true,true,false,false,false,false,false,false,false,false,false,false,false,false,false,false,false,false,false,false,false,false,false,false] rfl rfl (any_of HT_.out (by kernel_rfl)) (fun _ _ _ h => h) (Or.inl ⟨by rfl, ?_⟩) ?_ ?_; rotate_left; · (intro w'; go_simp; with_reducible rfl)
                     rotate_left; · (simp only [Act.put, sq0_, sq1_, sq2_, i64_w, i32_w]; rfl)
                     refine pure_ (i := 9) (N := some 70) (v := ?_) (a' := ?_) #[true,true,true,true,true,true,true,true,true,true,false,false,false,false,false,false,false,false,false,false,false,false,false,false,false,false,false,false,false,false,false] rfl rfl (any_of HT_.out (by kernel_rfl)) (fun _ _ _ h => h) (Or.inl ⟨by rfl, ?_⟩) ?_ ?_; rotate_left; · (intro w'; go_simp; with_reducible rfl)
                     rotate_left; · (simp only [Act.put, sq0_, sq1_, sq2_, i64_w, i32_w]; rfl)
                     refine pure_ (i := 10) (N := some 71) (v := ?_) (a' := ?_) #[true,true,true,true,true,true,true,true,true,true,true,false,false,false,false,false,false,false,false,false,false,false,false,false,false,false,false,false,false,false,false] rfl rfl (any_of HT_.out (by kernel_rfl)) (fun _ _ _ h => h) (Or.inl ⟨by rfl, ?_⟩) ?_ ?_; rotate_left; · (intro w'; go_simp; with_reducible rfl)
                     rotate_left; · (simp only [Act.put, sq0_, sq1_, sq2_, i64_w, i32_w]; rfl)
                     refine pure_ (i := 11) (N := some 72) (v := ?_) (a' := ?_) #[true,true,true,true,true,true,true,true,true,true,true,true,false,false,false,false,false,false,false,false,false,false,false,false,false,false,false,false,false,false,false] rfl rfl (any_of HT_.out (by kernel_rfl)) (fun _ _ _ h => h) (Or.inl ⟨by rfl, ?_⟩) ?_ ?_; rotate_left; · (intro w'; go_simp; with_reducible rfl)
                     rotate_left; · (simp only [Act.put, sq0_, sq1_, sq2_, i64_w, i32_w]; rfl)
                     refine pure_ (i := 12) (N := some 73) (v := ?_) (a' := ?_) #[true,true,true,true,true,true,true,true,true,true,true,true,true,false,false,false,false,false,false,false,false,false,false,false,false,false,false,false,false,false,false] rfl rfl (any_of HT_.out (by kernel_rfl)) (fun _ _ _ h => h) (Or.inl ⟨by rfl, ?_⟩) ?_ ?_; rotate_left; · (intro w'; go_simp; with_reducible rfl)
                     rotate_left; · (simp only [Act.put, sq0_, sq1_, sq2_, i64_w, i32_w]; rfl)
                     refine pure_ (i := 13) (N := some 74) (v := ?_) (a' := ?_) #[true,true,true,true,true,true,true,true,true,true,true,true,true,true,false,false,false,false,false,false,false,false,false,false,false,false,false,false,false,false,false] rfl rfl (any_of HT_.out (by kernel_rfl)) (fun _ _ _ h => h) (Or.inl ⟨by rfl, ?_⟩) ?_ ?_; rotate_left; · (intro w'; go_simp; with_reducible rfl)
                     rotate_left; · (simp only [Act.put, sq0_, sq1_, sq2_, i64_w, i32_w]; rfl)
                     refine pure_ (i := 14) (N := some 75) (v := ?_) (a' := ?_) #[true,true,true,true,true,true,true,true,true,true,true,true,true,true,true,false,false,false,false,false,false,false,false,false,false,false,false,false,false,false,false] rfl rfl (any_of HT_.out (by kernel_rfl)) (fun _ _ _ h => h) (Or.inl ⟨by rfl, ?_⟩) ?_ ?_; rotate_left; · (intro w'; go_simp; with_reducible rfl)
                     rotate_left; · (simp only [Act.put, sq0_, sq1_, sq2_, i64_w, i32_w]; rfl)
                     refine pure_ (i := 15) (N := some 76) (v := ?_) (a' := ?_) #[true,true,true,true,true,true,true,true,true,true,true,true,true,true,true,true,false,false,false,false,false,false,false,false,false,false,false,false,false,false,false] rfl rfl (any_of HT_.out (by kernel_rfl)) (fun _ _ _ h => h) (Or.inl ⟨by rfl, ?_⟩) ?_ ?_; rotate_left; · (intro w'; go_simp; with_reducible rfl)
                     rotate_left; · (simp only [Act.put, sq0_, sq1_, sq2_, i64_w, i32_w]; rfl)
                     refine pure_ (i := 16) (N := some 77) (v := ?_) (a' := ?_) #[true,true,true,true,true,true,true,true,true,true,true,true,true,true,true,true,true,false,false,false,false,false,false,false,false,false,false,false,false,false,false] rfl rfl (any_of HT_.out (by kernel_rfl)) (fun _ _ _ h => h) (Or.inl ⟨by rfl, ?_⟩) ?_ ?_; rotate_left; · (intro w'; go_simp; with_reducible rfl)
                     rotate_left; · (simp only [Act.put, sq0_, sq1_, sq2_, i64_w, i32_w]; rfl)
                     refine pure_ (i := 17) (N := some 78) (v := ?_) (a' := ?_) #[true,true,true,true,true,true,true,true,true,true,true,true,true,true,true,true,true,true,false,false,false,false,false,false,false,false,false,false,false,false,false] rfl rfl (any_of HT_.out (by kernel_rfl)) (fun _ _ _ h => h) (Or.inl ⟨by rfl, ?_⟩) ?_ ?_; rotate_left; · (intro w'; go_simp; with_reducible rfl)
                     rotate_left; · (simp only [Act.put, sq0_, sq1_, sq2_, i64_w, i32_w]; rfl)
                     refine pure_ (i := 19) (N := some 80) (v := ?_) (a' := ?_) #[true,true,true,true,true,true,true,true,true,true,true,true,true,true,true,true,true,true,false,true,false,false,false,false,false,false,false,false,false,false,false] rfl rfl (any_of HT_.out (by kernel_rfl)) (fun _ _ _ h => h) (Or.inl ⟨by rfl, ?_⟩) ?_ ?_; rotate_left; · (intro w'; go_simp; with_reducible rfl)
                     rotate_left; · (simp only [Act.put, sq0_, sq1_, sq2_, i64_w, i32_w]; rfl)
                     refine pure_ (i := 20) (N := some 81) (v := ?_) (a' := ?_) #[true,true,true,true,true,true,true,true,true,true,true,true,true,true,true,true,true,true,false,true,true,false,false,false,false,false,false,false,false,false,false] rfl rfl (any_of HT_.out (by kernel_rfl)) (fun _ _ _ h => h) (Or.inl ⟨by rfl, ?_⟩) ?_ ?_; rotate_left; · (intro w'; go_simp; with_reducible rfl)
                     rotate_left; · (simp only [Act.put, sq0_, sq1_, sq2_, i64_w, i32_w]; rfl)
                     refine pure_ (i := 21) (N := some 82) (v := ?_) (a' := ?_) #[true,true,true,true,true,true,true,true,true,true,true,true,true,true,true,true,true,true,false,true,true,true,false,false,false,false,false,false,false,false,false] rfl rfl (any_of HT_.out (by kernel_rfl)) (fun _ _ _ h => h) (Or.inl ⟨by rfl, ?_⟩) ?_ ?_; rotate_left; · (intro w'; go_simp; with_reducible rfl)
                     rotate_left; · (simp only [Act.put, sq0_, sq1_, sq2_, i64_w, i32_w]; rfl)
                     refine pure_ (i := 22) (N := some 83) (v := ?_) (a' := ?_) #[true,true,true,true,true,true,true,true,true,true,true,true,true,true,true,true,true,true,false,true,true,true,true,false,false,false,false,false,false,false,false] rfl rfl (any_of HT_.out (by kernel_rfl)) (fun _ _ _ h => h) (Or.inl ⟨by rfl, ?_⟩) ?_ ?_; rotate_left; · (intro w'; go_simp; with_reducible rfl)
                     rotate_left; · (simp only [Act.put, sq0_, sq1_, sq2_, i64_w, i32_w]; rfl)
                     refine pure_ (i := 23) (N := some 84) (v := ?_) (a' := ?_) #[true,true,true,true,true,true,true,true,true,true,true,true,true,true,true,true,true,true,false,true,true,true,true,true,false,false,false,false,false,false,false] rfl rfl (any_of HT_.out (by kernel_rfl)) (fun _ _ _ h => h) (Or.inl ⟨by rfl, ?_⟩) ?_ ?_; rotate_left; · (intro w'; go_simp; with_reducible rfl)
                     rotate_left; · (simp only [Act.put, sq0_, sq1_, sq2_, i64_w, i32_w]; rfl)
                     refine pure_ (i := 24) (N := some 85) (v := ?_) (a' := ?_) #[true,true,true,true,true,true,true,true,true,true,true,true,true,true,true,true,true,true,false,true,true,true,true,true,true,false,false,false,false,false,false] rfl rfl (any_of HT_.out (by kernel_rfl)) (fun _ _ _ h => h) (Or.inl ⟨by rfl, ?_⟩) ?_ ?_; rotate_left; · (intro w'; go_simp; with_reducible rfl)
                     rotate_left; · (simp only [Act.put, sq0_, sq1_, sq2_, i64_w, i32_w]; rfl)
                     refine pure_ (i := 25) (N := some 86) (v := ?_) (a' := ?_) #[true,true,true,true,true,true,true,true,true,true,true,true,true,true,true,true,true,true,false,true,true,true,true,true,true,true,false,false,false,false,false] rfl rfl (any_of HT_.out (by kernel_rfl)) (fun _ _ _ h => h) (Or.inl ⟨by rfl, ?_⟩) ?_ ?_; rotate_left; · (intro w'; go_simp; with_reducible rfl)
                     rotate_left; · (simp only [Act.put, sq0_, sq1_, sq2_, i64_w, i32_w]; rfl)
                     refine pure_ (i := 26) (N := some 87) (v := ?_) (a' := ?_) #[true,true,true,true,true,true,true,true,true,true,true,true,true,true,true,true,true,true,false,true,true,true,true,true,true,true,true,false,false,false,false] rfl rfl (any_of HT_.out (by kernel_rfl)) (fun _ _ _ h => h) (Or.inl ⟨by rfl, ?_⟩) ?_ ?_; rotate_left; · (intro w'; go_simp; with_reducible rfl)
                     rotate_left; · (simp only [Act.put, sq0_, sq1_, sq2_, i64_w, i32_w]; rfl)
                     refine take_ (i := 18) (N := some 79) (v := ?_) (a' := ?_) #[true,true,true,true,true,true,true,true,true,true,true,true,true,true,true,true,true,true,true,true,true,true,true,true,true,true,true,false,false,false,false] rfl rfl (take_ofW HT_.out HW_.out (by kernel_rfl)) (fun _ _ _ h => h) (Or.inl ⟨by rfl, ?_⟩) hHeld ?_ ?_
                     rotate_left
                     ·
                      rintro w' ⟨s0, s1⟩
                      go_simp
                      with_reducible rfl
                     rotate_left
                     ·
                      simp only [Act.put, sq0_, sq1_, sq2_, i64_w, i32_w]
                      rfl
                     refine take_ (i := 27) (N := some 88) (v := ?_) (a' := ?_) #[true,true,true,true,true,true,true,true,true,true,true,true,true,true,true,true,true,true,true,true,true,true,true,true,true,true,true,true,false,false,false] rfl rfl (take_ofW HT_.out HW_.out (by kernel_rfl)) (fun _ _ _ h => h) (Or.inl ⟨by rfl, ?_⟩) hHeld ?_ ?_
                     rotate_left
                     ·
                      rintro w' ⟨s0, s1⟩
                      go_simp
                      with_reducible rfl
                     rotate_left
                     ·
                      simp only [Act.put, sq0_, sq1_, sq2_, i64_w, i32_w]
                      rfl
                     refine pure_ (i := 28) (N := some 89) (v := ?_) (a' := ?_) #[true,true,true,true,true,true,true,true,true,true,true,true,true,true,true,true,true,true,true,true,true,true,true,true,true,true,true,true,true,false,false] rfl rfl (any_of HT_.out (by kernel_rfl)) (fun _ _ _ h => h) (Or.inl ⟨by rfl, ?_⟩) ?_ ?_; rotate_left; · (intro w'; go_simp; with_reducible rfl)
                     rotate_left; · (simp only [Act.put, sq0_, sq1_, sq2_, i64_w, i32_w]; rfl)
                     refine pure_ (i := 29) (N := some 90) (v := ?_) (a' := ?_) #[true,true,true,true,true,true,true,true,true,true,true,true,true,true,true,true,true,true,true,true,true,true,true,true,true,true,true,true,true,true,false] rfl rfl (any_of HT_.out (by kernel_rfl)) (fun _ _ _ h => h) (Or.inl ⟨by rfl, ?_⟩) ?_ ?_; rotate_left; · (intro w'; go_simp; with_reducible rfl)
                     rotate_left; · (simp only [Act.put, sq0_, sq1_, sq2_, i64_w, i32_w]; rfl)
                     refine pure_ (i := 30) (N := some 91) (v := ?_) (a' := ?_) #[true,true,true,true,true,true,true,true,true,true,true,true,true,true,true,true,true,true,true,true,true,true,true,true,true,true,true,true,true,true,true] rfl rfl (any_of HT_.out (by kernel_rfl)) (fun _ _ _ h => h) (Or.inl ⟨by rfl, ?_⟩) ?_ ?_; rotate_left; · (intro w'; go_simp; with_reducible rfl)
                     rotate_left; · (simp only [Act.put, sq0_, sq1_, sq2_, i64_w, i32_w]; rfl)
                     refine done_ (done_of HT_.out (by kernel_rfl)) ?_
                     try go_wp2
                     have n0_ := Aside0.mk (Kd.R_drew HO_5.out)
                     have n1_ := Aside0.mk (Kd.R_drew HO_7.out)
                     have n2_ := Aside0.mk (blk_drew BK149.out)
                     have n3_ := Aside0.mk (below_drew1 HB.out)
                     clear HO_5
                     clear HO_7
                     clear BK149
                     clear HB
                     have HO_5 := n0_
                     have HO_7 := n1_
                     have BK149 := n2_
                     have HB := n3_
                     clear n0_ n1_ n2_ n3_
                     refine start_ (n := 10) (S := fun w' => w'.cell? ⟨gb149, 0, none⟩ = some (.int .i64 x10_1) ∧ w'.cell? ⟨gb149, 1, none⟩ = some (.int .i64 0) ∧ w'.cell? ⟨gb149, 2, none⟩ = some (.string (⟨#[]⟩ : ByteArray))) (ds := [9]) #[false,false,false,false,false,false,false,false,false,false] (by kernel_rfl) rfl rfl ⟨(blk_cell BK149.out 0).trans rfl, (blk_cell BK149.out 1).trans rfl, (blk_cell BK149.out 2).trans rfl⟩ (fun hHeld => ?_); refine with_tabW emendateref06_Diff.tab19 emendateref06_Diff.bits19 (fun HT_ HW_ => ?_)
                     generalize w79.drew = w81 at HO_5 HO_7 BK149 HB hHeld ⊢
                     refine pure_ (i := 0) (N := some 98) (v := ?_) (a' := ?_) #[true,false,false,false,false,false,false,false,false,false] rfl rfl (any_of HT_.out (by kernel_rfl)) (fun _ _ _ h => h) (Or.inl ⟨by rfl, ?_⟩) ?_ ?_; rotate_left; · (intro w'; go_simp; with_reducible rfl)
                     rotate_left; · (simp only [Act.put, sq0_, sq1_, sq2_, i64_w, i32_w]; rfl)
                     refine pure_ (i := 2) (N := some 100) (v := ?_) (a' := ?_) #[true,false,true,false,false,false,false,false,false,false] rfl rfl (any_of HT_.out (by kernel_rfl)) (fun _ _ _ h => h) (Or.inl ⟨by rfl, ?_⟩) ?_ ?_; rotate_left; · (intro w'; go_simp; with_reducible rfl)
                     rotate_left; · (simp only [Act.put, sq0_, sq1_, sq2_, i64_w, i32_w]; rfl)
                     refine pure_ (i := 3) (N := some 101) (v := ?_) (a' := ?_) #[true,false,true,true,false,false,false,false,false,false] rfl rfl (any_of HT_.out (by kernel_rfl)) (fun _ _ _ h => h) (Or.inl ⟨by rfl, ?_⟩) ?_ ?_; rotate_left; · (intro w'; go_simp; with_reducible rfl)
                     rotate_left; · (simp only [Act.put, sq0_, sq1_, sq2_, i64_w, i32_w]; rfl)
                     refine pure_ (i := 4) (N := some 102) (v := ?_) (a' := ?_) #[true,false,true,true,true,false,false,false,false,false] rfl rfl (any_of HT_.out (by kernel_rfl)) (fun _ _ _ h => h) (Or.inl ⟨by rfl, ?_⟩) ?_ ?_; rotate_left; · (intro w'; go_simp; with_reducible rfl)
                     rotate_left; · (simp only [Act.put, sq0_, sq1_, sq2_, i64_w, i32_w]; rfl)
                     refine pure_ (i := 5) (N := some 103) (v := ?_) (a' := ?_) #[true,false,true,true,true,true,false,false,false,false] rfl rfl (any_of HT_.out (by kernel_rfl)) (fun _ _ _ h => h) (Or.inl ⟨by rfl, ?_⟩) ?_ ?_; rotate_left; · (intro w'; go_simp; with_reducible rfl)
                     rotate_left; · (simp only [Act.put, sq0_, sq1_, sq2_, i64_w, i32_w]; rfl)
                     refine pure_ (i := 6) (N := some 104) (v := ?_) (a' := ?_) #[true,false,true,true,true,true,true,false,false,false] rfl rfl (any_of HT_.out (by kernel_rfl)) (fun _ _ _ h => h) (Or.inl ⟨by rfl, ?_⟩) ?_ ?_; rotate_left; · (intro w'; go_simp; with_reducible rfl)
                     rotate_left; · (simp only [Act.put, sq0_, sq1_, sq2_, i64_w, i32_w]; rfl)
                     refine take_ (i := 1) (N := some 99) (v := ?_) (a' := ?_) #[true,true,true,true,true,true,true,false,false,false] rfl rfl (take_ofW HT_.out HW_.out (by kernel_rfl)) (fun _ _ _ h => h) (Or.inl ⟨by rfl, ?_⟩) hHeld ?_ ?_
                     rotate_left
                     ·
                      rintro w' ⟨s0, s1, s2⟩
                      go_simp
                      with_reducible rfl
                     rotate_left
                     ·
                      simp only [Act.put, sq0_, sq1_, sq2_, i64_w, i32_w]
                      rfl
                     refine pure_ (i := 7) (N := some 105) (v := ?_) (a' := ?_) #[true,true,true,true,true,true,true,true,false,false] rfl rfl (any_of HT_.out (by kernel_rfl)) (fun _ _ _ h => h) (Or.inl ⟨by rfl, ?_⟩) ?_ ?_; rotate_left; · (intro w'; go_simp; with_reducible rfl)
                     rotate_left; · (simp only [Act.put, sq0_, sq1_, sq2_, i64_w, i32_w]; rfl)
                     refine pure_ (i := 8) (N := some 106) (v := ?_) (a' := ?_) #[true,true,true,true,true,true,true,true,true,false] rfl rfl (any_of HT_.out (by kernel_rfl)) (fun _ _ _ h => h) (Or.inl ⟨by rfl, ?_⟩) ?_ ?_; rotate_left; · (intro w'; go_simp; with_reducible rfl)
                     rotate_left; · (simp only [Act.put, sq0_, sq1_, sq2_, i64_w, i32_w]; rfl)
                     refine last_ (i := 9) (N := none) #[true,true,true,true,true,true,true,true,true,true] rfl rfl (one_of HT_.out (by kernel_rfl)) (by decide) (fun K hK => ?_)
                     have hs82 : w81.cell? ⟨gb149, 2, none⟩ = some (.string (⟨#[]⟩ : ByteArray)) := (blk_cell BK149.out 2).trans rfl
                     have hfs82 := blk_frozen BK149.out 2
                     refine skip_ (w1 := ?_) (by rfl) rfl ?_ ?_
                     rotate_left
                     ·
                      go_simp
                      rfl
                     refine hK.out _ _ ?_
                     clear hK K
                     refine done_ (done_of HT_.out (by kernel_rfl)) ?_
                     try go_wp2
                     go_roundg kj9
                     case measure => have := HK1.out; have := HJ6.out; have := HJ9.out; omega
                     case rel => exact ⟨(x7_1), (true), (x10_1), (wrap64 (x11_1 + 1)), (x10_1), (0), ((⟨#[]⟩ : ByteArray) ++ (a1.extract (x11_1 : Int).toNat ((wrap64 (x11_1 + 1)) : Int).toNat)), (by first | rfl | (simp; done) | (simp [*]; done)), (by first | rfl | (simp; done) | (simp [*]; done)), (by first | rfl | (simp; done) | (simp [*]; done)), H', ⟨by have := HK1.out; have := HJ6.out; have := HJ9.out; omega⟩, ⟨by (with_reducible repeat (first | apply Kd.R_alloc | apply Kd.R_drewN | apply Kd.R_drew)); exact Kd.R_mono (Kd.R_far (p := ⟨gb149, 2, none⟩) (Kd.R_types HO_5.out BK149.out (by decide)) (fun _ hk => hk.2) (.string ((⟨#[]⟩ : ByteArray) ++ (a1.extract (x11_1 : Int).toNat ((wrap64 (x11_1 + 1)) : Int).toNat)))) (fun _ hk => trivial)⟩, ⟨by (with_reducible repeat (first | apply Kd.R_alloc | apply Kd.R_drewN | apply Kd.R_drew)); exact Kd.R_mono (Kd.R_far (p := ⟨gb149, 2, none⟩) (Kd.R_mono HO_7.out (fun k_ hk => (⟨hk, hk⟩ : _ ∧ k_ ≠ gb149))) (fun _ hk => hk.2) (.string ((⟨#[]⟩ : ByteArray) ++ (a1.extract (x11_1 : Int).toNat ((wrap64 (x11_1 + 1)) : Int).toNat)))) (fun _ hk => hk.1)⟩, ⟨by (with_reducible repeat (first | refine blk_drewN ?_ _ | refine blk_drew ?_ | refine blk_alloc ?_ _)); refine blk_put (cs := #[.int .i64 x10_1, .int .i64 0, .string (⟨#[]⟩ : ByteArray)]) ?_ 2 _ rfl; (with_reducible repeat (first | refine blk_drewN ?_ _ | refine blk_drew ?_ | refine blk_alloc ?_ _)); exact BK149.out⟩, ⟨by repeat (first | (with_reducible first | exact HB.out | apply below_alloc | apply pw_below_drewN | apply below_drew1 | refine below_set ?_ GE149.out) | exact HB.out)⟩⟩
                    ·
                     rw [if_neg c76] at H
                     exact absurd H (by simp)
                   ·
                    rw [if_neg c75] at H
                    exact absurd H (by simp)
                  ·
                   rw [if_neg c74] at H
                   exact absurd H (by simp)
                 ·
                  rw [if_neg c73] at H
                  exact absurd H (by simp)
               ·
                rw [if_neg c66] at H
                exact absurd H (by simp)
              ·
               rw [if_neg c65] at H
               exact absurd H (by simp)
             ·
              rw [if_neg c63] at H
              exact absurd H (by simp)
            ·
             rw [if_neg c62] at H
             exact absurd H (by simp)
           ·
            rw [if_neg c60] at H
            have c60b0 : decide (x10_1 < (a0.size : Int)) = false := decide_eq_false c60
            clear c60
            by_cases c83 : 0 ≤ x11_1
            ·
             rw [if_pos c83] at H
             have c83b0 := eq_true c83
             try (have c83n := c83; simp only [ByteArray.size_append, ByteArray.size_extract, Nat.min_self, Nat.zero_add] at c83n; (repeat (rw [Nat.min_eq_left] at c83n; rotate_left; (refine Int.toNat_le.2 ?_; exact of_decide_eq_true (by first | (with_reducible assumption) | assumption)))); (try simp only [Nat.sub_zero] at c83n); (first | have c83nf := eq_false (Nat.not_lt.2 c83n) | have c83nf := eq_false (Int.not_lt.2 c83n) | skip); replace c83n := eq_true c83n)
             have c83b1 : decide (0 ≤ x11_1) = true := decide_eq_true c83
             clear c83
             by_cases c84 : x11_1 ≤ (wrap64 (x11_1 + 1))
             ·
              rw [if_pos c84] at H
              have c84b0 := eq_true c84
              try (have c84n := c84; simp only [ByteArray.size_append, ByteArray.size_extract, Nat.min_self, Nat.zero_add] at c84n; (repeat (rw [Nat.min_eq_left] at c84n; rotate_left; (refine Int.toNat_le.2 ?_; exact of_decide_eq_true (by first | (with_reducible assumption) | assumption)))); (try simp only [Nat.sub_zero] at c84n); (first | have c84nf := eq_false (Nat.not_lt.2 c84n) | have c84nf := eq_false (Int.not_lt.2 c84n) | skip); replace c84n := eq_true c84n)
              have c84b1 : decide (x11_1 ≤ (wrap64 (x11_1 + 1))) = true := decide_eq_true c84
              by_cases c85 : (wrap64 (x11_1 + 1)) ≤ (a1.size : Int)
              ·
               rw [if_pos c85] at H
               have c85b0 := eq_true c85
               try (have c85n := c85; simp only [ByteArray.size_append, ByteArray.size_extract, Nat.min_self, Nat.zero_add] at c85n; (repeat (rw [Nat.min_eq_left] at c85n; rotate_left; (refine Int.toNat_le.2 ?_; exact of_decide_eq_true (by first | (with_reducible assumption) | assumption)))); (try simp only [Nat.sub_zero] at c85n); (first | have c85nf := eq_false (Nat.not_lt.2 c85n) | have c85nf := eq_false (Int.not_lt.2 c85n) | skip); replace c85n := eq_true c85n)
               have c85b1 : decide ((wrap64 (x11_1 + 1)) ≤ (a1.size : Int)) = true := decide_eq_true c85
               by_cases c86 : 0 + (a1.extract (x11_1 : Int).toNat ((wrap64 (x11_1 + 1)) : Int).toNat).size ≤ 9223372036854775807
               ·
                rw [if_pos c86] at H
                have c86b0 := eq_true c86
                try (have c86n := c86; simp only [ByteArray.size_append, ByteArray.size_extract, Nat.min_self, Nat.zero_add] at c86n; (repeat (rw [Nat.min_eq_left] at c86n; rotate_left; (refine Int.toNat_le.2 ?_; exact of_decide_eq_true (by first | (with_reducible assumption) | assumption)))); (try simp only [Nat.sub_zero] at c86n); (first | have c86nf := eq_false (Nat.not_lt.2 c86n) | have c86nf := eq_false (Int.not_lt.2 c86n) | skip); replace c86n := eq_true c86n)
                have c86b1 : decide (0 + (a1.extract (x11_1 : Int).toNat ((wrap64 (x11_1 + 1)) : Int).toNat).size ≤ 9223372036854775807) = true := decide_eq_true c86
                try (have c86b1z := c86b1; simp only [ByteArray.size_append, ByteArray.size_extract, Nat.min_self, Nat.zero_add] at c86b1z; (repeat (rw [Nat.min_eq_left] at c86b1z; rotate_left; (refine Int.toNat_le.2 ?_; exact of_decide_eq_true (by first | (with_reducible assumption) | assumption)))); (try simp only [Nat.sub_zero] at c86b1z))
                try have c86b2 : (9223372036854775807 < 0 + (a1.extract (x11_1 : Int).toNat ((wrap64 (x11_1 + 1)) : Int).toNat).size) = False := eq_false (Nat.not_lt.2 c86)
                have H' := Aside0.mk H
                clear H
                have hcz87_0 : wc.cell? ⟨gb149, 0, none⟩ = some (.int .i64 x150000_1) := (blk_cell BK149.out 0).trans rfl
                have hcz87_1 : wc.cell? ⟨gb149, 1, none⟩ = some (.int .i64 x150001_1) := (blk_cell BK149.out 1).trans rfl
                have hcz87_2 : wc.cell? ⟨gb149, 2, none⟩ = some (.string x150002_1) := (blk_cell BK149.out 2).trans rfl
                have hfz87_0 := blk_frozen BK149.out 0
                have hfz87_1 := blk_frozen BK149.out 1
                have hfz87_2 := blk_frozen BK149.out 2
                try go_wp2
                have n0_ : Aside0 (Kd.R (Kd.int .i64) 3 (((wc.setCell ⟨gb149, 0, none⟩ (.int .i64 x10_1)).setCell ⟨gb149, 1, none⟩ (.int .i64 0)).setCell ⟨gb149, 2, none⟩ (.string (⟨#[]⟩ : ByteArray))) w.heap.size (fun _ => True) v147 t146) := ⟨by (with_reducible repeat (first | apply Kd.R_alloc | apply Kd.R_drewN | apply Kd.R_drew)); exact Kd.R_mono (Kd.R_far (p := ⟨gb149, 2, none⟩) (Kd.R_far (p := ⟨gb149, 1, none⟩) (Kd.R_far (p := ⟨gb149, 0, none⟩) (Kd.R_types HO_5.out BK149.out (by decide)) (fun _ hk => hk.2) (.int .i64 x10_1)) (fun _ hk => hk.2) (.int .i64 0)) (fun _ hk => hk.2) (.string (⟨#[]⟩ : ByteArray))) (fun _ hk => trivial)⟩
                have n1_ : Aside0 (Kd.R k30 30 (((wc.setCell ⟨gb149, 0, none⟩ (.int .i64 x10_1)).setCell ⟨gb149, 1, none⟩ (.int .i64 0)).setCell ⟨gb149, 2, none⟩ (.string (⟨#[]⟩ : ByteArray))) w.heap.size (fun k_ => k_ ≠ gb149) u7 x7_1) := ⟨by (with_reducible repeat (first | apply Kd.R_alloc | apply Kd.R_drewN | apply Kd.R_drew)); exact Kd.R_mono (Kd.R_far (p := ⟨gb149, 2, none⟩) (Kd.R_far (p := ⟨gb149, 1, none⟩) (Kd.R_far (p := ⟨gb149, 0, none⟩) (Kd.R_mono HO_7.out (fun k_ hk => (⟨hk, hk⟩ : _ ∧ k_ ≠ gb149))) (fun _ hk => hk.2) (.int .i64 x10_1)) (fun _ hk => hk.2) (.int .i64 0)) (fun _ hk => hk.2) (.string (⟨#[]⟩ : ByteArray))) (fun _ hk => hk.1)⟩
                have n2_ : Aside0 ((((wc.setCell ⟨gb149, 0, none⟩ (.int .i64 x10_1)).setCell ⟨gb149, 1, none⟩ (.int .i64 0)).setCell ⟨gb149, 2, none⟩ (.string (⟨#[]⟩ : ByteArray))).heap[gb149]? = some (.cells #[.int .i64 x10_1, .int .i64 0, .string (⟨#[]⟩ : ByteArray)] 30 (0, 0))) := ⟨by (with_reducible repeat (first | refine blk_drewN ?_ _ | refine blk_drew ?_ | refine blk_alloc ?_ _)); refine blk_put (cs := #[.int .i64 x10_1, .int .i64 0, .string x150002_1]) ?_ 2 _ rfl; (with_reducible repeat (first | refine blk_drewN ?_ _ | refine blk_drew ?_ | refine blk_alloc ?_ _)); refine blk_put (cs := #[.int .i64 x10_1, .int .i64 x150001_1, .string x150002_1]) ?_ 1 _ rfl; (with_reducible repeat (first | refine blk_drewN ?_ _ | refine blk_drew ?_ | refine blk_alloc ?_ _)); refine blk_put (cs := #[.int .i64 x150000_1, .int .i64 x150001_1, .string x150002_1]) ?_ 0 _ rfl; (with_reducible repeat (first | refine blk_drewN ?_ _ | refine blk_drew ?_ | refine blk_alloc ?_ _)); exact BK149.out⟩
                have n3_ : Aside0 (Below w.heap.size w (((wc.setCell ⟨gb149, 0, none⟩ (.int .i64 x10_1)).setCell ⟨gb149, 1, none⟩ (.int .i64 0)).setCell ⟨gb149, 2, none⟩ (.string (⟨#[]⟩ : ByteArray)))) := ⟨by repeat (first | (with_reducible first | exact HB.out | apply below_alloc | apply pw_below_drewN | apply below_drew1 | refine below_set ?_ GE149.out) | exact HB.out)⟩
                (try clear HO_5)
                (try clear HO_7)
                (try clear BK149)
                (try clear HB)
                generalize (((wc.setCell ⟨gb149, 0, none⟩ (.int .i64 x10_1)).setCell ⟨gb149, 1, none⟩ (.int .i64 0)).setCell ⟨gb149, 2, none⟩ (.string (⟨#[]⟩ : ByteArray))) = w88 at n0_ n1_ n2_ n3_ ⊢
                have HO_5 := n0_
                have HO_7 := n1_
                have BK149 := n2_
                have HB := n3_
                clear n0_ n1_ n2_ n3_
                have n0_ := Aside0.mk (Kd.R_drew HO_5.out)
                have n1_ := Aside0.mk (Kd.R_drew HO_7.out)
                have n2_ := Aside0.mk (blk_drew BK149.out)
                have n3_ := Aside0.mk (below_drew1 HB.out)
                clear HO_5
                clear HO_7
                clear BK149
                clear HB
                have HO_5 := n0_
                have HO_7 := n1_
                have BK149 := n2_
                have HB := n3_
                clear n0_ n1_ n2_ n3_
                refine start_ (n := 31) (S := fun w' => True) (ds := []) #[false,false,false,false,false,false,false,false,false,false,false,false,false,false,false,false,false,false,false,false,false,false,false,false,false,false,false,false,false,false,false] (by kernel_rfl) rfl rfl trivial (fun hHeld => ?_); refine with_tabW emendateref06_Diff.tab16 emendateref06_Diff.bits16 (fun HT_ HW_ => ?_)
                generalize w88.drew = w89 at HO_5 HO_7 BK149 HB hHeld ⊢
                refine pure_ (i := 0) (N := some 61) (v := ?_) (a' := ?_) #[true,false,false,false,false,false,false,false,false,false,false,false,false,false,false,false,false,false,false,false,false,false,false,false,false,false,false,false,false,false,false] rfl rfl (any_of HT_.out (by kernel_rfl)) (fun _ _ _ h => h) (Or.inl ⟨by rfl, ?_⟩) ?_ ?_; rotate_left; · (intro w'; go_simp; with_reducible rfl)
                rotate_left; · (simp only [Act.put, sq0_, sq1_, sq2_, i64_w, i32_w]; rfl)
                refine pure_ (i := 1) (N := some 62) (v := ?_) (a' := ?_) #[true,true,false,false,false,false,false,false,false,false,false,false,false,false,false,false,false,false,false,false,false,false,false,false,false,false,false,false,false,false,false] rfl rfl (any_of HT_.out (by kernel_rfl)) (fun _ _ _ h => h) (Or.inl ⟨by rfl, ?_⟩) ?_ ?_; rotate_left; · (intro w'; go_simp; with_reducible rfl)
                rotate_left; · (simp only [Act.put, sq0_, sq1_, sq2_, i64_w, i32_w]; rfl)
                refine pure_ (i := 2) (N := some 63) (v := ?_) (a' := ?_) #[true,true,true,false,false,false,false,false,false,false,false,false,false,false,false,false,false,false,false,false,false,false,false,false,false,false,false,false,false,false,false] rfl rfl (any_of HT_.out (by kernel_rfl)) (fun _ _ _ h => h) (Or.inl ⟨by rfl, ?_⟩) ?_ ?_; rotate_left; · (intro w'; go_simp; with_reducible rfl)
                rotate_left; · (simp only [Act.put, sq0_, sq1_, sq2_, i64_w, i32_w]; rfl)
                refine pure_ (i := 3) (N := some 64) (v := ?_) (a' := ?_) #[true,true,true,true,false,false,false,false,false,false,false,false,false,false,false,false,false,false,false,false,false,false,false,false,false,false,false,false,false,false,false] rfl rfl (any_of HT_.out (by kernel_rfl)) (fun _ _ _ h => h) (Or.inl ⟨by rfl, ?_⟩) ?_ ?_; rotate_left; · (intro w'; go_simp; with_reducible rfl)
                rotate_left; · (simp only [Act.put, sq0_, sq1_, sq2_, i64_w, i32_w]; rfl)
                refine pure_ (i := 4) (N := some 65) (v := ?_) (a' := ?_) #[true,true,true,true,true,false,false,false,false,false,false,false,false,false,false,false,false,false,false,false,false,false,false,false,false,false,false,false,false,false,false] rfl rfl (any_of HT_.out (by kernel_rfl)) (fun _ _ _ h => h) (Or.inl ⟨by rfl, ?_⟩) ?_ ?_; rotate_left; · (intro w'; go_simp; with_reducible rfl)
                rotate_left; · (simp only [Act.put, sq0_, sq1_, sq2_, i64_w, i32_w]; rfl)
                refine pure_ (i := 5) (N := some 66) (v := ?_) (a' := ?_) #[true,true,true,true,true,true,false,false,false,false,false,false,false,false,false,false,false,false,false,false,false,false,false,false,false,false,false,false,false,false,false] rfl rfl (any_of HT_.out (by kernel_rfl)) (fun _ _ _ h => h) (Or.inl ⟨by rfl, ?_⟩) ?_ ?_; rotate_left; · (intro w'; go_simp; with_reducible rfl)
                rotate_left; · (simp only [Act.put, sq0_, sq1_, sq2_, i64_w, i32_w]; rfl)
                refine pure_ (i := 6) (N := some 67) (v := ?_) (a' := ?_) #[true,true,true,true,true,true,true,false,false,false,false,false,false,false,false,false,false,false,false,false,false,false,false,false,false,false,false,false,false,false,false] rfl rfl (any_of HT_.out (by kernel_rfl)) (fun _ _ _ h => h) (Or.inl ⟨by rfl, ?_⟩) ?_ ?_; rotate_left; · (intro w'; go_simp; with_reducible rfl)
                rotate_left; · (simp only [Act.put, sq0_, sq1_, sq2_, i64_w, i32_w]; rfl)
                refine pure_ (i := 7) (N := some 68) (v := ?_) (a' := ?_) #[true,true,true,true,true,true,true,true,false,false,false,false,false,false,false,false,false,false,false,false,false,false,false,false,false,false,false,false,false,false,false] rfl rfl (any_of HT_.out (by kernel_rfl)) (fun _ _ _ h => h) (Or.inl ⟨by rfl, ?_⟩) ?_ ?_; rotate_left; · (intro w'; go_simp; with_reducible rfl)
                rotate_left; · (simp only [Act.put, sq0_, sq1_, sq2_, i64_w, i32_w]; rfl)
                refine pure_ (i := 8) (N := some 69) (v := ?_) (a' := ?_) #[true,true,true,true,true,true,true,true,true,false,false,false,false,false,false,false,false,false,false,false,false,false,false,false,false,false,false,false,false,false,false] rfl rfl (any_of HT_.out (by kernel_rfl)) (fun _ _ _ h => h) (Or.inl ⟨by rfl, ?_⟩) ?_ ?_; rotate_left; · (intro w'; go_simp; with_reducible rfl)
                rotate_left; · (simp only [Act.put, sq0_, sq1_, sq2_, i64_w, i32_w]; rfl)
                refine pure_ (i := 9) (N := some 70) (v := ?_) (a' := ?_) #[true,true,true,true,true,true,true,true,true,true,false,false,false,false,false,false,false,false,false,false,false,false,false,false,false,false,false,false,false,false,false] rfl rfl (any_of HT_.out (by kernel_rfl)) (fun _ _ _ h => h) (Or.inl ⟨by rfl, ?_⟩) ?_ ?_; rotate_left; · (intro w'; go_simp; with_reducible rfl)
                rotate_left; · (simp only [Act.put, sq0_, sq1_, sq2_, i64_w, i32_w]; rfl)
                refine pure_ (i := 10) (N := some 71) (v := undef) (a' := ?_) #[true,true,true,true,true,true,true,true,true,true,true,false,false,false,false,false,false,false,false,false,false,false,false,false,false,false,false,false,false,false,false] rfl rfl (any_of HT_.out (by kernel_rfl)) (fun _ _ _ h => h) (Or.inr ⟨by rfl, rfl⟩) ?_ ?_
                rotate_left
                ·
                 simp only [Act.put, sq0_, sq1_, sq2_, i64_w, i32_w]
                 rfl
                refine pure_ (i := 11) (N := some 72) (v := undef) (a' := ?_) #[true,true,true,true,true,true,true,true,true,true,true,true,false,false,false,false,false,false,false,false,false,false,false,false,false,false,false,false,false,false,false] rfl rfl (any_of HT_.out (by kernel_rfl)) (fun _ _ _ h => h) (Or.inr ⟨by rfl, rfl⟩) ?_ ?_
                rotate_left
                ·
                 simp only [Act.put, sq0_, sq1_, sq2_, i64_w, i32_w]
                 rfl
                refine pure_ (i := 12) (N := some 73) (v := undef) (a' := ?_) #[true,true,true,true,true,true,true,true,true,true,true,true,true,false,false,false,false,false,false,false,false,false,false,false,false,false,false,false,false,false,false] rfl rfl (any_of HT_.out (by kernel_rfl)) (fun _ _ _ h => h) (Or.inr ⟨by rfl, rfl⟩) ?_ ?_
                rotate_left
                ·
                 simp only [Act.put, sq0_, sq1_, sq2_, i64_w, i32_w]
                 rfl
                refine pure_ (i := 13) (N := some 74) (v := undef) (a' := ?_) #[true,true,true,true,true,true,true,true,true,true,true,true,true,true,false,false,false,false,false,false,false,false,false,false,false,false,false,false,false,false,false] rfl rfl (any_of HT_.out (by kernel_rfl)) (fun _ _ _ h => h) (Or.inr ⟨by rfl, rfl⟩) ?_ ?_
                rotate_left
                ·
                 simp only [Act.put, sq0_, sq1_, sq2_, i64_w, i32_w]
                 rfl
                refine pure_ (i := 14) (N := some 75) (v := undef) (a' := ?_) #[true,true,true,true,true,true,true,true,true,true,true,true,true,true,true,false,false,false,false,false,false,false,false,false,false,false,false,false,false,false,false] rfl rfl (any_of HT_.out (by kernel_rfl)) (fun _ _ _ h => h) (Or.inr ⟨by rfl, rfl⟩) ?_ ?_
                rotate_left
                ·
                 simp only [Act.put, sq0_, sq1_, sq2_, i64_w, i32_w]
                 rfl
                refine pure_ (i := 15) (N := some 76) (v := undef) (a' := ?_) #[true,true,true,true,true,true,true,true,true,true,true,true,true,true,true,true,false,false,false,false,false,false,false,false,false,false,false,false,false,false,false] rfl rfl (any_of HT_.out (by kernel_rfl)) (fun _ _ _ h => h) (Or.inr ⟨by rfl, rfl⟩) ?_ ?_
                rotate_left
                ·
                 simp only [Act.put, sq0_, sq1_, sq2_, i64_w, i32_w]
                 rfl
                refine pure_ (i := 16) (N := some 77) (v := undef) (a' := ?_) #[true,true,true,true,true,true,true,true,true,true,true,true,true,true,true,true,true,false,false,false,false,false,false,false,false,false,false,false,false,false,false] rfl rfl (any_of HT_.out (by kernel_rfl)) (fun _ _ _ h => h) (Or.inr ⟨by rfl, rfl⟩) ?_ ?_
                rotate_left
                ·
                 simp only [Act.put, sq0_, sq1_, sq2_, i64_w, i32_w]
                 rfl
                refine pure_ (i := 17) (N := some 78) (v := undef) (a' := ?_) #[true,true,true,true,true,true,true,true,true,true,true,true,true,true,true,true,true,true,false,false,false,false,false,false,false,false,false,false,false,false,false] rfl rfl (any_of HT_.out (by kernel_rfl)) (fun _ _ _ h => h) (Or.inr ⟨by rfl, rfl⟩) ?_ ?_
                rotate_left
                ·
                 simp only [Act.put, sq0_, sq1_, sq2_, i64_w, i32_w]
                 rfl
                refine pure_ (i := 18) (N := some 79) (v := undef) (a' := ?_) #[true,true,true,true,true,true,true,true,true,true,true,true,true,true,true,true,true,true,true,false,false,false,false,false,false,false,false,false,false,false,false] rfl rfl (any_of HT_.out (by kernel_rfl)) (fun _ _ _ h => h) (Or.inr ⟨by rfl, rfl⟩) ?_ ?_
                rotate_left
                ·
                 simp only [Act.put, sq0_, sq1_, sq2_, i64_w, i32_w]
                 rfl
                refine pure_ (i := 19) (N := some 80) (v := undef) (a' := ?_) #[true,true,true,true,true,true,true,true,true,true,true,true,true,true,true,true,true,true,true,true,false,false,false,false,false,false,false,false,false,false,false] rfl rfl (any_of HT_.out (by kernel_rfl)) (fun _ _ _ h => h) (Or.inr ⟨by rfl, rfl⟩) ?_ ?_
                rotate_left
                ·
                 simp only [Act.put, sq0_, sq1_, sq2_, i64_w, i32_w]
                 rfl
                refine pure_ (i := 20) (N := some 81) (v := undef) (a' := ?_) #[true,true,true,true,true,true,true,true,true,true,true,true,true,true,true,true,true,true,true,true,true,false,false,false,false,false,false,false,false,false,false] rfl rfl (any_of HT_.out (by kernel_rfl)) (fun _ _ _ h => h) (Or.inr ⟨by rfl, rfl⟩) ?_ ?_
                rotate_left
                ·
                 simp only [Act.put, sq0_, sq1_, sq2_, i64_w, i32_w]
                 rfl
                refine pure_ (i := 21) (N := some 82) (v := undef) (a' := ?_) #[true,true,true,true,true,true,true,true,true,true,true,true,true,true,true,true,true,true,true,true,true,true,false,false,false,false,false,false,false,false,false] rfl rfl (any_of HT_.out (by kernel_rfl)) (fun _ _ _ h => h) (Or.inr ⟨by rfl, rfl⟩) ?_ ?_
                rotate_left
                ·
                 simp only [Act.put, sq0_, sq1_, sq2_, i64_w, i32_w]
                 rfl
                refine pure_ (i := 22) (N := some 83) (v := undef) (a' := ?_) #[true,true,true,true,true,true,true,true,true,true,true,true,true,true,true,true,true,true,true,true,true,true,true,false,false,false,false,false,false,false,false] rfl rfl (any_of HT_.out (by kernel_rfl)) (fun _ _ _ h => h) (Or.inr ⟨by rfl, rfl⟩) ?_ ?_
                rotate_left
                ·
                 simp only [Act.put, sq0_, sq1_, sq2_, i64_w, i32_w]
                 rfl
                refine pure_ (i := 23) (N := some 84) (v := undef) (a' := ?_) #[true,true,true,true,true,true,true,true,true,true,true,true,true,true,true,true,true,true,true,true,true,true,true,true,false,false,false,false,false,false,false] rfl rfl (any_of HT_.out (by kernel_rfl)) (fun _ _ _ h => h) (Or.inr ⟨by rfl, rfl⟩) ?_ ?_
                rotate_left
                ·
                 simp only [Act.put, sq0_, sq1_, sq2_, i64_w, i32_w]
                 rfl
                refine pure_ (i := 24) (N := some 85) (v := undef) (a' := ?_) #[true,true,true,true,true,true,true,true,true,true,true,true,true,true,true,true,true,true,true,true,true,true,true,true,true,false,false,false,false,false,false] rfl rfl (any_of HT_.out (by kernel_rfl)) (fun _ _ _ h => h) (Or.inr ⟨by rfl, rfl⟩) ?_ ?_
                rotate_left
                ·
                 simp only [Act.put, sq0_, sq1_, sq2_, i64_w, i32_w]
                 rfl
                refine pure_ (i := 25) (N := some 86) (v := undef) (a' := ?_) #[true,true,true,true,true,true,true,true,true,true,true,true,true,true,true,true,true,true,true,true,true,true,true,true,true,true,false,false,false,false,false] rfl rfl (any_of HT_.out (by kernel_rfl)) (fun _ _ _ h => h) (Or.inr ⟨by rfl, rfl⟩) ?_ ?_
                rotate_left
                ·
                 simp only [Act.put, sq0_, sq1_, sq2_, i64_w, i32_w]
                 rfl
                refine pure_ (i := 26) (N := some 87) (v := undef) (a' := ?_) #[true,true,true,true,true,true,true,true,true,true,true,true,true,true,true,true,true,true,true,true,true,true,true,true,true,true,true,false,false,false,false] rfl rfl (any_of HT_.out (by kernel_rfl)) (fun _ _ _ h => h) (Or.inr ⟨by rfl, rfl⟩) ?_ ?_
                rotate_left
                ·
                 simp only [Act.put, sq0_, sq1_, sq2_, i64_w, i32_w]
                 rfl
                refine pure_ (i := 27) (N := some 88) (v := undef) (a' := ?_) #[true,true,true,true,true,true,true,true,true,true,true,true,true,true,true,true,true,true,true,true,true,true,true,true,true,true,true,true,false,false,false] rfl rfl (any_of HT_.out (by kernel_rfl)) (fun _ _ _ h => h) (Or.inr ⟨by rfl, rfl⟩) ?_ ?_
                rotate_left
                ·
                 simp only [Act.put, sq0_, sq1_, sq2_, i64_w, i32_w]
                 rfl
                refine pure_ (i := 28) (N := some 89) (v := undef) (a' := ?_) #[true,true,true,true,true,true,true,true,true,true,true,true,true,true,true,true,true,true,true,true,true,true,true,true,true,true,true,true,true,false,false] rfl rfl (any_of HT_.out (by kernel_rfl)) (fun _ _ _ h => h) (Or.inr ⟨by rfl, rfl⟩) ?_ ?_
                rotate_left
                ·
                 simp only [Act.put, sq0_, sq1_, sq2_, i64_w, i32_w]
                 rfl
                refine pure_ (i := 29) (N := some 90) (v := ?_) (a' := ?_) #[true,true,true,true,true,true,true,true,true,true,true,true,true,true,true,true,true,true,true,true,true,true,true,true,true,true,true,true,true,true,false] rfl rfl (any_of HT_.out (by kernel_rfl)) (fun _ _ _ h => h) (Or.inl ⟨by rfl, ?_⟩) ?_ ?_; rotate_left; · (intro w'; go_simp; with_reducible rfl)
                rotate_left; · (simp only [Act.put, sq0_, sq1_, sq2_, i64_w, i32_w]; rfl)
                refine pure_ (i := 30) (N := some 91) (v := ?_) (a' := ?_) #[true,true,true,true,true,true,true,true,true,true,true,true,true,true,true,true,true,true,true,true,true,true,true,true,true,true,true,true,true,true,true] rfl rfl (any_of HT_.out (by kernel_rfl)) (fun _ _ _ h => h) (Or.inl ⟨by rfl, ?_⟩) ?_ ?_; rotate_left; · (intro w'; go_simp; with_reducible rfl)
                rotate_left; · (simp only [Act.put, sq0_, sq1_, sq2_, i64_w, i32_w]; rfl)
                refine done_ (done_of HT_.out (by kernel_rfl)) ?_
                try go_wp2
                have n0_ := Aside0.mk (Kd.R_drew HO_5.out)
                have n1_ := Aside0.mk (Kd.R_drew HO_7.out)
                have n2_ := Aside0.mk (blk_drew BK149.out)
                have n3_ := Aside0.mk (below_drew1 HB.out)
                clear HO_5
                clear HO_7
                clear BK149
                clear HB
                have HO_5 := n0_
                have HO_7 := n1_
                have BK149 := n2_
                have HB := n3_
                clear n0_ n1_ n2_ n3_
                refine start_ (n := 10) (S := fun w' => w'.cell? ⟨gb149, 0, none⟩ = some (.int .i64 x10_1) ∧ w'.cell? ⟨gb149, 1, none⟩ = some (.int .i64 0) ∧ w'.cell? ⟨gb149, 2, none⟩ = some (.string (⟨#[]⟩ : ByteArray))) (ds := [9]) #[false,false,false,false,false,false,false,false,false,false] (by kernel_rfl) rfl rfl ⟨(blk_cell BK149.out 0).trans rfl, (blk_cell BK149.out 1).trans rfl, (blk_cell BK149.out 2).trans rfl⟩ (fun hHeld => ?_); refine with_tabW emendateref06_Diff.tab19 emendateref06_Diff.bits19 (fun HT_ HW_ => ?_)
                generalize w89.drew = w90 at HO_5 HO_7 BK149 HB hHeld ⊢
                refine pure_ (i := 0) (N := some 98) (v := ?_) (a' := ?_) #[true,false,false,false,false,false,false,false,false,false] rfl rfl (any_of HT_.out (by kernel_rfl)) (fun _ _ _ h => h) (Or.inl ⟨by rfl, ?_⟩) ?_ ?_; rotate_left; · (intro w'; go_simp; with_reducible rfl)
                rotate_left; · (simp only [Act.put, sq0_, sq1_, sq2_, i64_w, i32_w]; rfl)
                refine pure_ (i := 2) (N := some 100) (v := ?_) (a' := ?_) #[true,false,true,false,false,false,false,false,false,false] rfl rfl (any_of HT_.out (by kernel_rfl)) (fun _ _ _ h => h) (Or.inl ⟨by rfl, ?_⟩) ?_ ?_; rotate_left; · (intro w'; go_simp; with_reducible rfl)
                rotate_left; · (simp only [Act.put, sq0_, sq1_, sq2_, i64_w, i32_w]; rfl)
                refine pure_ (i := 3) (N := some 101) (v := ?_) (a' := ?_) #[true,false,true,true,false,false,false,false,false,false] rfl rfl (any_of HT_.out (by kernel_rfl)) (fun _ _ _ h => h) (Or.inl ⟨by rfl, ?_⟩) ?_ ?_; rotate_left; · (intro w'; go_simp; with_reducible rfl)
                rotate_left; · (simp only [Act.put, sq0_, sq1_, sq2_, i64_w, i32_w]; rfl)
                refine pure_ (i := 4) (N := some 102) (v := ?_) (a' := ?_) #[true,false,true,true,true,false,false,false,false,false] rfl rfl (any_of HT_.out (by kernel_rfl)) (fun _ _ _ h => h) (Or.inl ⟨by rfl, ?_⟩) ?_ ?_; rotate_left; · (intro w'; go_simp; with_reducible rfl)
                rotate_left; · (simp only [Act.put, sq0_, sq1_, sq2_, i64_w, i32_w]; rfl)
                refine pure_ (i := 5) (N := some 103) (v := ?_) (a' := ?_) #[true,false,true,true,true,true,false,false,false,false] rfl rfl (any_of HT_.out (by kernel_rfl)) (fun _ _ _ h => h) (Or.inl ⟨by rfl, ?_⟩) ?_ ?_; rotate_left; · (intro w'; go_simp; with_reducible rfl)
                rotate_left; · (simp only [Act.put, sq0_, sq1_, sq2_, i64_w, i32_w]; rfl)
                refine pure_ (i := 6) (N := some 104) (v := ?_) (a' := ?_) #[true,false,true,true,true,true,true,false,false,false] rfl rfl (any_of HT_.out (by kernel_rfl)) (fun _ _ _ h => h) (Or.inl ⟨by rfl, ?_⟩) ?_ ?_; rotate_left; · (intro w'; go_simp; with_reducible rfl)
                rotate_left; · (simp only [Act.put, sq0_, sq1_, sq2_, i64_w, i32_w]; rfl)
                refine take_ (i := 1) (N := some 99) (v := ?_) (a' := ?_) #[true,true,true,true,true,true,true,false,false,false] rfl rfl (take_ofW HT_.out HW_.out (by kernel_rfl)) (fun _ _ _ h => h) (Or.inl ⟨by rfl, ?_⟩) hHeld ?_ ?_
                rotate_left
                ·
                 rintro w' ⟨s0, s1, s2⟩
                 go_simp
                 with_reducible rfl
                rotate_left
                ·
                 simp only [Act.put, sq0_, sq1_, sq2_, i64_w, i32_w]
                 rfl
                refine pure_ (i := 7) (N := some 105) (v := ?_) (a' := ?_) #[true,true,true,true,true,true,true,true,false,false] rfl rfl (any_of HT_.out (by kernel_rfl)) (fun _ _ _ h => h) (Or.inl ⟨by rfl, ?_⟩) ?_ ?_; rotate_left; · (intro w'; go_simp; with_reducible rfl)
                rotate_left; · (simp only [Act.put, sq0_, sq1_, sq2_, i64_w, i32_w]; rfl)
                refine pure_ (i := 8) (N := some 106) (v := ?_) (a' := ?_) #[true,true,true,true,true,true,true,true,true,false] rfl rfl (any_of HT_.out (by kernel_rfl)) (fun _ _ _ h => h) (Or.inl ⟨by rfl, ?_⟩) ?_ ?_; rotate_left; · (intro w'; go_simp; with_reducible rfl)
                rotate_left; · (simp only [Act.put, sq0_, sq1_, sq2_, i64_w, i32_w]; rfl)
                refine last_ (i := 9) (N := none) #[true,true,true,true,true,true,true,true,true,true] rfl rfl (one_of HT_.out (by kernel_rfl)) (by decide) (fun K hK => ?_)
                have hs91 : w90.cell? ⟨gb149, 2, none⟩ = some (.string (⟨#[]⟩ : ByteArray)) := (blk_cell BK149.out 2).trans rfl
                have hfs91 := blk_frozen BK149.out 2
                refine skip_ (w1 := ?_) (by rfl) rfl ?_ ?_
                rotate_left
                ·
                 go_simp
                 rfl
                refine hK.out _ _ ?_
                clear hK K
                refine done_ (done_of HT_.out (by kernel_rfl)) ?_
                try go_wp2
                go_roundg kj9
                case measure => have := HK1.out; have := HJ6.out; have := HJ9.out; omega
                case rel => exact ⟨(x7_1), (true), (x10_1), (wrap64 (x11_1 + 1)), (x10_1), (0), ((⟨#[]⟩ : ByteArray) ++ (a1.extract (x11_1 : Int).toNat ((wrap64 (x11_1 + 1)) : Int).toNat)), (by first | rfl | (simp; done) | (simp [*]; done)), (by first | rfl | (simp; done) | (simp [*]; done)), (by first | rfl | (simp; done) | (simp [*]; done)), H', ⟨by have := HK1.out; have := HJ6.out; have := HJ9.out; omega⟩, ⟨by (with_reducible repeat (first | apply Kd.R_alloc | apply Kd.R_drewN | apply Kd.R_drew)); exact Kd.R_mono (Kd.R_far (p := ⟨gb149, 2, none⟩) (Kd.R_types HO_5.out BK149.out (by decide)) (fun _ hk => hk.2) (.string ((⟨#[]⟩ : ByteArray) ++ (a1.extract (x11_1 : Int).toNat ((wrap64 (x11_1 + 1)) : Int).toNat)))) (fun _ hk => trivial)⟩, ⟨by (with_reducible repeat (first | apply Kd.R_alloc | apply Kd.R_drewN | apply Kd.R_drew)); exact Kd.R_mono (Kd.R_far (p := ⟨gb149, 2, none⟩) (Kd.R_mono HO_7.out (fun k_ hk => (⟨hk, hk⟩ : _ ∧ k_ ≠ gb149))) (fun _ hk => hk.2) (.string ((⟨#[]⟩ : ByteArray) ++ (a1.extract (x11_1 : Int).toNat ((wrap64 (x11_1 + 1)) : Int).toNat)))) (fun _ hk => hk.1)⟩, ⟨by (with_reducible repeat (first | refine blk_drewN ?_ _ | refine blk_drew ?_ | refine blk_alloc ?_ _)); refine blk_put (cs := #[.int .i64 x10_1, .int .i64 0, .string (⟨#[]⟩ : ByteArray)]) ?_ 2 _ rfl; (with_reducible repeat (first | refine blk_drewN ?_ _ | refine blk_drew ?_ | refine blk_alloc ?_ _)); exact BK149.out⟩, ⟨by repeat (first | (with_reducible first | exact HB.out | apply below_alloc | apply pw_below_drewN | apply below_drew1 | refine below_set ?_ GE149.out) | exact HB.out)⟩⟩
               ·
                rw [if_neg c86] at H
                exact absurd H (by simp)
              ·
               rw [if_neg c85] at H
               exact absurd H (by simp)
             ·
              rw [if_neg c84] at H
              exact absurd H (by simp)
            ·
             rw [if_neg c83] at H
             exact absurd H (by simp)
     ·
      replace c9 := Bool.eq_false_iff.mpr c9
      subst c9
      have H1 : (if x9_1 = true then (if x7_1.length < 4398046511104 then (some (x7_1 ++ [(⟨x150000_1, x150001_1, x150002_1⟩ : S30)])) else (none)) else (some x7_1)) = some r := by rw [if_neg (show ¬ (false = true) by decide)] at H; exact H
      clear H
      have H := H1
      clear H1
      by_cases c92 : x9_1 = true
      ·
       subst c92
       have H1 : (if x7_1.length < 4398046511104 then (some (x7_1 ++ [(⟨x150000_1, x150001_1, x150002_1⟩ : S30)])) else (none)) = some r := by rw [if_pos rfl] at H; exact H
       clear H
       have H := H1
       clear H1
       by_cases c93 : x7_1.length < 4398046511104
       ·
        rw [if_pos c93] at H
        have LMc93 := Aside0.mk c93
        clear c93
        obtain ⟨y150, hy150⟩ : ∃ y_ : List (S30), y_ = (x7_1 ++ [(⟨x150000_1, x150001_1, x150002_1⟩ : S30)]) := ⟨_, rfl⟩
        replace H : (some y150) = some r := by first | (rw [hy150]; with_reducible exact H) | (have H2_ := (Option.bind_some _ _).symm.trans H; rw [hy150]; with_reducible exact H2_) | (have H2_ := (Option.bind_some _ _).symm.trans H; with_reducible exact H2_) | with_reducible exact H | (rw [hy150]; exact H) | exact H
        have Ny150 := Aside0.mk hy150
        clear hy150
        obtain rfl := Option.some.inj H
        have hcz94_0 : wc.cell? ⟨gb149, 0, none⟩ = some (.int .i64 x150000_1) := (blk_cell BK149.out 0).trans rfl
        have hcz94_1 : wc.cell? ⟨gb149, 1, none⟩ = some (.int .i64 x150001_1) := (blk_cell BK149.out 1).trans rfl
        have hcz94_2 : wc.cell? ⟨gb149, 2, none⟩ = some (.string x150002_1) := (blk_cell BK149.out 2).trans rfl
        have hfz94_0 := blk_frozen BK149.out 0
        have hfz94_1 := blk_frozen BK149.out 1
        have hfz94_2 := blk_frozen BK149.out 2
        go_wp2_with (first | ((with_reducible refine gate_builtin (b := .append) (xs := #[.tmp 110, .tmp 112]) rfl ?_); (try (refine gate_guard (by rfl) ?_; dsimp only)); at_builtin; refine Kd.R_append k30 (w0 := w) w.heap.size rfl (.tmp 110) (.tmp 112) 27 30 (.agg #[(.int .i64 0), (.int .i64 0), (.string ⟨#[]⟩)]) 32 rfl Try.underlying27 info30 rfl (by decide) (by omega) u7 x7_1 (⟨x150000_1, x150001_1, x150002_1⟩ : S30) [.int .i64 x150000_1, .int .i64 x150001_1, .string x150002_1] (fun k_ => k_ ≠ gb149) (fun _ => False) rfl rfl ?aP (fun _ hk => hk.elim) ?aF ?aO ?aB ?aS ?aL ?_; (case aP => exact k30_mkM _ _ _ (⟨x150000_1, x150001_1, x150002_1⟩ : S30)); (case aB => exact (by repeat (first | (with_reducible first | exact HB.out | apply below_alloc | apply pw_below_drewN | apply below_drew1 | refine below_set ?_ GE149.out) | exact HB.out))); (case aF => exact (fun k_ hk => Kd.freshB (g := gb149) (o := .cells #[.int .i64 x150000_1, .int .i64 x150001_1, .string x150002_1] 30 (0, 0)) (by (with_reducible repeat (first | refine blk_drewN ?_ _ | refine blk_drew ?_ | refine blk_alloc ?_ _)); exact BK149.out) k_ hk)); (case aO => exact (by (with_reducible repeat (first | apply Kd.R_alloc | apply Kd.R_drewN | apply Kd.R_drew)); exact HO_7.out)); (case aS => exact (below_size (by repeat (first | (with_reducible first | exact HB.out | apply below_alloc | apply pw_below_drewN | apply below_drew1 | refine below_set ?_ GE149.out) | exact HB.out)))); (case aL => have := LMc93.out; omega); intro v151 w95 ho hb hg hat; rw [← Ny150.out] at ho; have n0_ := Aside0.mk (Kd.R_over' (by (with_reducible repeat (first | apply Kd.R_alloc | apply Kd.R_drewN | apply Kd.R_drew)); exact HO_5.out) (Kd.R_typed (by (with_reducible repeat (first | apply Kd.R_alloc | apply Kd.R_drewN | apply Kd.R_drew)); exact HO_7.out)) (by decide) hg); have n1_ := Aside0.mk (blk_grown (g := gb149) (o := .cells #[.int .i64 x150000_1, .int .i64 x150001_1, .string x150002_1] 30 (0, 0)) (by (with_reducible repeat (first | refine blk_drewN ?_ _ | refine blk_drew ?_ | refine blk_alloc ?_ _)); exact BK149.out) hg (Kd.R_away HO_7.out (fun _ hk => hk))); have n2_ := Aside0.mk (hb); have n3_ := Aside0.mk (ho); clear HO_5; clear BK149; clear HB; clear HO_7; have HO_5 := n0_; have BK149 := n1_; have HB := n2_; have HO152 := n3_; clear n0_ n1_ n2_ n3_; clear ho hb hg hat))
        go_ret
        exact ⟨_, by first | rfl | (simp [errW_none, errW_some] <;> rfl) | (simp [*, errW_none, errW_some] <;> rfl), by (with_reducible repeat (first | apply Kd.R_alloc | apply Kd.R_drewN | apply Kd.R_drew)); exact Kd.R_mono HO152.out (fun _ hk => trivial), by repeat (first | (with_reducible first | exact HB.out | apply below_alloc | apply pw_below_drewN | apply below_drew1 | refine below_set ?_ GE149.out) | exact HB.out)⟩
       ·
        rw [if_neg c93] at H
        exact absurd H (by simp)
      ·
       replace c92 := Bool.eq_false_iff.mpr c92
       subst c92
       have H1 : (some x7_1) = some r := by rw [if_neg (show ¬ (false = true) by decide)] at H; exact H
       clear H
       have H := H1
       clear H1
       obtain rfl := Option.some.inj H
       go_wp2
       go_ret
       exact ⟨_, by first | rfl | (simp [errW_none, errW_some] <;> rfl) | (simp [*, errW_none, errW_some] <;> rfl), by (with_reducible repeat (first | apply Kd.R_alloc | apply Kd.R_drewN | apply Kd.R_drew)); exact Kd.R_mono HO_7.out (fun _ hk => trivial), by repeat (first | (with_reducible first | exact HB.out | apply below_alloc | apply pw_below_drewN | apply below_drew1 | refine below_set ?_ GE149.out) | exact HB.out)⟩

end Go.Proofs.Ythhgfagnallcnaa.PA
