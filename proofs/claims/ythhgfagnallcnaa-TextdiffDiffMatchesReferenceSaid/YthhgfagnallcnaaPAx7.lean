/- A part of a law as a program wrote it (wip/myprint.py, over the print of the kit): a function, what its call does, or the row of a law; Lean checks it. -/
import Derived.Test.YthhgfagnallcnaaPAx0
namespace Go.Proofs.Ythhgfagnallcnaa.PA
open Go.RowKit Go.Proofs.YthhgfagnallcnaaW.PrintWords Go.Proofs.YthhgfagnallcnaaW.PrintLast Go.Proofs.YthhgfagnallcnaaW.PrintMore
attribute [local go_sem] max2_int min2_int max_two min_two max_three min_three max_four min_four   -- for this text's walks alone
set_option linter.unusedVariables false
set_option linter.unusedSimpArgs false

/-! ### textdiff_Diff: function 15 -/
-- (a text of its own, pasted by myprint.py)
def textdiff_Diff.del (a b : ByteArray) (t : List Int) (i j : Nat) : Prop := j = b.size ∨ (i < a.size ∧ rd t (((i : Int) + 1) * ((b.size : Int) + 1) + (j : Int)) ≤ rd t ((i : Int) * ((b.size : Int) + 1) + ((j : Int) + 1)))
instance (a b : ByteArray) (t : List Int) (i j : Nat) : Decidable (textdiff_Diff.del a b t i j) := by unfold textdiff_Diff.del; infer_instance
def textdiff_Diff.l0 (a b : ByteArray) (t : List Int) : Nat → List S30 → Bool → Nat → Nat → S30 → Option (List S30)
  | 0, _, _, _, _, _ => none
  | k + 1, ls, op, i, j, e =>
    if i < a.size ∨ j < b.size then
      if i < a.size ∧ j < b.size ∧ bt a i = bt b j then textdiff_Diff.l0 a b t k (if op = true then ls ++ [e] else ls) false (i + 1) (j + 1) e
      else if textdiff_Diff.del a b t i j then textdiff_Diff.l0 a b t k ls true (i + 1) j ⟨(if op = true then e else ⟨i, 0, ⟨#[]⟩⟩ : S30).f0, (if op = true then e else ⟨i, 0, ⟨#[]⟩⟩ : S30).f1 + 1, (if op = true then e else ⟨i, 0, ⟨#[]⟩⟩ : S30).f2⟩
      else textdiff_Diff.l0 a b t k ls true i (j + 1) ⟨(if op = true then e else ⟨i, 0, ⟨#[]⟩⟩ : S30).f0, (if op = true then e else ⟨i, 0, ⟨#[]⟩⟩ : S30).f1, (if op = true then e else ⟨i, 0, ⟨#[]⟩⟩ : S30).f2 ++ b.extract j (j + 1)⟩
    else some (if op = true then ls ++ [e] else ls)
def textdiff_Diff.f (a0 a1 : ByteArray) : Option (List S30) := if a0.size ≤ 1000 ∧ a1.size ≤ 1000 then textdiff_Diff.l0 a0 a1 (Of.table a0 a1) (a0.size + a1.size + 1) [] false 0 0 ⟨0, 0, ⟨#[]⟩⟩ else none
theorem textdiff_Diff.tbKeep {a b : ByteArray} {ba bb vB tB gB : Nat} {cost : List Int} {W W' : World} (h : Of.Tb a b ba bb vB tB gB cost W) (hk : ∀ (k : Nat) (cs : Array Value) (t : TypeId), W.heap[k]? = some (.cells cs t (0, 0)) → t ≠ 30 → W'.heap[k]? = some (.cells cs t (0, 0))) : Of.Tb a b ba bb vB tB gB cost W' :=
  ⟨hk _ _ _ h.ha (by decide), hk _ _ _ h.hb (by decide), hk _ _ _ h.hv (by decide), hk _ _ _ h.ht (by decide), hk _ _ _ h.hg (by decide)⟩
structure textdiff_Diff.St (a b : ByteArray) (ba bb vB tB gB eb : Nat) (w : World) (ls : List S30) (v : Value) (e : S30) (W : World) : Prop where
  T : Of.Tb a b ba bb vB tB gB (Of.table a b) W
  R : Kd.R k30 30 W w.heap.size (fun k_ => k_ ≠ eb) v ls
  B : W.heap[eb]? = some (.cells #[.int .i64 e.f0, .int .i64 e.f1, .string e.f2] 30 (0, 0))
  L : Below w.heap.size w W
  G : w.heap.size ≤ eb
theorem textdiff_Diff.St.drewN {a b : ByteArray} {ba bb vB tB gB eb : Nat} {w : World} {ls : List S30} {v : Value} {e : S30} {W : World} (h : textdiff_Diff.St a b ba bb vB tB gB eb w ls v e W) (n : Nat) : textdiff_Diff.St a b ba bb vB tB gB eb w ls v e (W.drewN n) :=
  ⟨h.T.drewN n, Kd.R_drewN h.R n, blk_drewN h.B n, pw_below_drewN h.L n, h.G⟩
theorem textdiff_Diff.St.set {a b : ByteArray} {ba bb vB tB gB eb : Nat} {w : World} {ls : List S30} {v : Value} {e e' : S30} {W : World} (h : textdiff_Diff.St a b ba bb vB tB gB eb w ls v e W) (i : Nat) (u : Value) (he : (#[.int .i64 e.f0, .int .i64 e.f1, .string e.f2] : Array Value).setIfInBounds i u = #[.int .i64 e'.f0, .int .i64 e'.f1, .string e'.f2]) : textdiff_Diff.St a b ba bb vB tB gB eb w ls v e' (W.setCell ⟨eb, i, none⟩ u) := by
  refine ⟨textdiff_Diff.tbKeep h.T fun k cs t hk ht => blk_far hk (blk_ne hk h.B ht) _, Kd.R_far (p := ⟨eb, i, none⟩) h.R (fun _ hk => hk) u, ?_, below_set h.L h.G, h.G⟩
  rw [blk_set h.B i u, he]
theorem textdiff_Diff.St.app {a b : ByteArray} {ba bb vB tB gB eb : Nat} {w : World} {ls ls' : List S30} {v v' : Value} {e : S30} {W W' : World} (h : textdiff_Diff.St a b ba bb vB tB gB eb w ls v e W) (hR : Kd.R k30 30 W' w.heap.size (fun k_ => k_ ≠ eb) v' ls') (hL : Below w.heap.size w W') (hg : W.grownBy W' v.ownBlock) : textdiff_Diff.St a b ba bb vB tB gB eb w ls' v' e W' := by
  refine ⟨textdiff_Diff.tbKeep h.T fun k cs t hk ht => (hg.block k (blk_lt hk) fun hv => ?_).trans hk, hR, blk_grown h.B hg (Kd.R_away h.R (fun _ hk => hk)), hL, h.G⟩
  obtain ⟨cells, hc⟩ := Kd.R_typed h.R k hv.symm
  rw [hk] at hc
  injection hc with hc
  injection hc with _ hc
  exact ht hc
set_option maxHeartbeats 8000000 in
set_option maxRecDepth 100000 in
theorem textdiff_Diff.calls (a0 a1 : ByteArray) (r : List S30) (w : World) (h : textdiff_Diff.f a0 a1 = some r) :
    Calls Try.prog 15 #[.string a0, .string a1] w fun e w' => ∃ v0_ : Value, e = .returned (v0_) ∧ Kd.R k30 30 w' w.heap.size (fun _ => True) v0_ r ∧ Below w.heap.size w w' := by
  unfold textdiff_Diff.f at h
  by_cases hs : a0.size ≤ 1000 ∧ a1.size ≤ 1000
  case neg => rw [if_neg hs] at h; cases h
  rw [if_pos hs] at h
  obtain ⟨s0, s1⟩ := hs
  obtain ⟨k, hk⟩ : ∃ k, k = a0.size + a1.size + 1 := ⟨_, rfl⟩
  rw [← hk] at h
  clear hk
  have H' := Aside0.mk h
  clear h
  have hu30 := Try.underlying30
  have hlT : (Of.table a0 a1).length = (a0.size + 1) * (a1.size + 1) := Of.fillT_length _ _ _
  obtain ⟨t, ht⟩ : ∃ t, t = Of.table a0 a1 := ⟨_, rfl⟩
  go_enter Try.func15, Try.ntmps15
  go_wp2_with (go_at_call 21; refine (Of.of_any a0 a1 _ s0 s1).mono ?_)
  rintro e w1 ⟨ba, bb, vB, tB, gB, rfl, l1, l2, hT, hB⟩
  have HT := Aside0.mk hT
  have HB := Aside0.mk hB
  clear hT hB
  go_wp2_with (first | ((with_reducible refine gate_dst (N := 7) rfl ?_); (try (refine gate_guard (by rfl) ?_; dsimp only)); refine box_event ?hg (N := 7) ?hd (cs := #[.int .i64 0, .int .i64 0, .string (⟨#[]⟩ : ByteArray)]) (t := 30) ?hr ?_; (case hd => rfl); (case hg => rfl); (case hr => first | (go_simp; done) | (go_simp; rfl)); intro eb hg w5 hbox hb; have St0 := Aside0.mk (textdiff_Diff.St.mk (e := ⟨0, 0, ⟨#[]⟩⟩) (ls := []) (v := .slice none 0 0) (HT.out.keep fun k o ho _ => (hb.block k (blk_lt ho)).trans ho) (Kd.R_nil _ _ _ _ _) hbox (HB.out.trans (hb.mono HB.out.size)) (hg ▸ HB.out.size)); clear hbox hb hg))
  go_loopg [6, 8, 9, 10] k (fun kq v6 v8 v9 v10 W => ∃ (ls : List S30) (op : Bool) (i j : Nat) (e : S30), v8 = .bool op ∧ v9 = .int .i64 i ∧ v10 = .int .i64 j ∧ Aside0 (textdiff_Diff.l0 a0 a1 (Of.table a0 a1) kq ls op i j e = some r) ∧ Aside0 (ls.length ≤ i + j ∧ 0 ≤ e.f1 ∧ e.f1 ≤ i ∧ e.f2.size ≤ j ∧ i ≤ a0.size ∧ j ≤ a1.size) ∧ Aside0 (textdiff_Diff.St a0 a1 ba bb vB tB gB eb w ls v6 e W))
  case atStart => exact ⟨[], false, 0, 0, ⟨0, 0, ⟨#[]⟩⟩, by first | rfl | (simp; done), by first | rfl | (simp; done), by first | rfl | (simp; done), H', ⟨⟨Nat.zero_le _, Int.le_refl _, Int.le_refl _, Nat.le_refl _, Nat.zero_le _, Nat.zero_le _⟩⟩, St0⟩
  case round =>
    clear H'
    obtain ⟨ls, op, i, j, e, rfl, rfl, rfl, HA, HN, HS⟩ := hrel
    cases gk with
    | zero => exact absurd HA.out (by simp [textdiff_Diff.l0])
    | succ k1 =>
      have H := HA.out
      clear HA
      simp only [textdiff_Diff.l0] at H
      obtain ⟨n1, n2, n3, n4, n5, n6⟩ := HN.out
      by_cases c1 : i < a0.size ∨ j < a1.size
      case neg =>
        rw [if_neg c1] at H
        have hi : ((i : Int) < (a0.size : Int)) = False := eq_false (by omega)
        have hj : ((j : Int) < (a1.size : Int)) = False := eq_false (by omega)
        have H0 := Aside0.mk (Option.some.inj H)
        clear H c1
        have hB0 := HS.out.B
        have hc0 := (blk_cell HS.out.B 0).trans rfl
        have hc1 := (blk_cell HS.out.B 1).trans rfl
        have hc2 := (blk_cell HS.out.B 2).trans rfl
        by_cases ho : op = true
        · subst ho
          have H' : ls ++ [e] = r := by simpa using H0.out
          clear H0
          go_wp2_with (first | ((with_reducible refine gate_builtin (b := .append) (xs := #[.tmp 97, .tmp 99]) rfl ?_); (try (refine gate_guard (by rfl) ?_; dsimp only)); at_builtin; refine Kd.R_append k30 (w0 := w) w.heap.size rfl (.tmp 97) (.tmp 99) 27 30 (.agg #[(.int .i64 0), (.int .i64 0), (.string ⟨#[]⟩)]) 32 rfl Try.underlying27 info30 rfl (by decide) (by omega) u6 ls e [.int .i64 e.f0, .int .i64 e.f1, .string e.f2] (fun k_ => k_ ≠ eb) (fun _ => False) rfl rfl (k30_mkM _ _ _ e) (fun _ hk => hk.elim) (fun k_ hk => Kd.freshB (g := eb) HS.out.B k_ hk) HS.out.R HS.out.L (below_size HS.out.L) (by omega) ?_; intro v1 w2 ho hb hg hat; have HS1 := Aside0.mk (HS.out.app ho hb hg); clear ho hb hg hat))
          go_ret
          exact ⟨_, rfl, by rw [← H']; exact Kd.R_mono HS1.out.R (fun _ _ => trivial), HS1.out.L⟩
        · have ho := Bool.eq_false_iff.mpr ho
          subst ho
          have H' : ls = r := by simpa using H0.out
          clear H0
          go_wp2
          go_ret
          exact ⟨_, rfl, by rw [← H']; exact Kd.R_mono HS.out.R (fun _ _ => trivial), HS.out.L⟩
      case pos =>
        rw [if_pos c1] at H
        have hxa : ∀ h : i < a0.size, ((a0[i]'h).toNat : Int) = bt a0 i := bt_at a0 i
        have hxb : ∀ h : j < a1.size, ((a1[j]'h).toNat : Int) = bt a1 j := bt_at a1 j
        by_cases c2 : i < a0.size ∧ j < a1.size ∧ bt a0 i = bt a1 j
        · rw [if_pos c2] at H
          obtain ⟨c3, c4, c5⟩ := c2
          have hi : ((i : Int) < (a0.size : Int)) = True := eq_true (by omega)
          have hj : ((j : Int) < (a1.size : Int)) = True := eq_true (by omega)
          have h3b : (bt a0 i == bt a1 j) = true := by simpa using c5
          have H0 := Aside0.mk H
          clear H c1
          have hwi : IntKind.i64.wrap ((i : Int) + 1) = ((i + 1 : Nat) : Int) := by rw [i64_w]; unfold wrap64; omega
          have hwj : IntKind.i64.wrap ((j : Int) + 1) = ((j + 1 : Nat) : Int) := by rw [i64_w]; unfold wrap64; omega
          by_cases ho : op = true
          · subst ho
            have H' : Aside0 (textdiff_Diff.l0 a0 a1 (Of.table a0 a1) k1 (ls ++ [e]) false (i + 1) (j + 1) e = some r) := ⟨by simpa using H0.out⟩
            clear H0
            go_wp2
            go_quiet (fail)
            obtain ⟨X, hX⟩ : ∃ X, wr.drewN nq = X := ⟨_, rfl⟩
            have HX : Aside0 (textdiff_Diff.St a0 a1 ba bb vB tB gB eb w ls u6 e X) := ⟨hX ▸ HS.out.drewN nq⟩
            rw [hX]
            clear hX
            have hc0 := (blk_cell HX.out.B 0).trans rfl
            have hc1 := (blk_cell HX.out.B 1).trans rfl
            have hc2 := (blk_cell HX.out.B 2).trans rfl
            have hf := fun q => blk_frozen HX.out.B q
            go_wp2_with (first | ((with_reducible refine gate_builtin (b := .append) (xs := #[.tmp 44, .tmp 46]) rfl ?_); (try (refine gate_guard (by rfl) ?_; dsimp only)); at_builtin; refine Kd.R_append k30 (w0 := w) w.heap.size rfl (.tmp 44) (.tmp 46) 27 30 (.agg #[(.int .i64 0), (.int .i64 0), (.string ⟨#[]⟩)]) 32 rfl Try.underlying27 info30 rfl (by decide) (by omega) u6 ls e [.int .i64 e.f0, .int .i64 e.f1, .string e.f2] (fun k_ => k_ ≠ eb) (fun _ => False) rfl rfl (k30_mkM _ _ _ e) (fun _ hk => hk.elim) (fun k_ hk => Kd.freshB (g := eb) HX.out.B k_ hk) HX.out.R HX.out.L (below_size HX.out.L) (by omega) ?_; intro v1 w2 ho hb hg hat; have HS1 := Aside0.mk (HX.out.app ho hb hg); clear ho hb hg hat))
            go_roundg k1
            case measure => omega
            case rel => exact ⟨ls ++ [e], false, i + 1, j + 1, e, (by first | rfl | (simp; done)), (by first | rfl | (simp; done)), (by first | rfl | (simp; done)), H', ⟨by simp; omega, n2, by omega, by omega, by omega, by omega⟩, HS1⟩
          · have ho := Bool.eq_false_iff.mpr ho
            subst ho
            have H' : Aside0 (textdiff_Diff.l0 a0 a1 (Of.table a0 a1) k1 ls false (i + 1) (j + 1) e = some r) := ⟨by simpa using H0.out⟩
            clear H0
            go_wp2
            go_quiet (fail)
            obtain ⟨X, hX⟩ : ∃ X, wr.drewN nq = X := ⟨_, rfl⟩
            have HX : Aside0 (textdiff_Diff.St a0 a1 ba bb vB tB gB eb w ls u6 e X) := ⟨hX ▸ HS.out.drewN nq⟩
            rw [hX]
            clear hX
            have hc0 := (blk_cell HX.out.B 0).trans rfl
            have hc1 := (blk_cell HX.out.B 1).trans rfl
            have hc2 := (blk_cell HX.out.B 2).trans rfl
            have hf := fun q => blk_frozen HX.out.B q
            go_wp2
            go_roundg k1
            case measure => omega
            case rel => exact ⟨ls, false, i + 1, j + 1, e, (by first | rfl | (simp; done)), (by first | rfl | (simp; done)), (by first | rfl | (simp; done)), H', ⟨by omega, n2, by omega, by omega, by omega, by omega⟩, HX⟩
        · rw [if_neg c2] at H
          by_cases ho : op = true
          · subst ho
            simp only [if_true] at H
            have hwd : IntKind.i64.wrap (e.f1 + 1) = e.f1 + 1 := by rw [i64_w]; unfold wrap64; omega
            rcases (by omega : (i < a0.size ∧ j < a1.size) ∨ (i < a0.size ∧ j = a1.size) ∨ (i = a0.size ∧ j < a1.size)) with ⟨c3, c4⟩ | ⟨c3, c4⟩ | ⟨c3, c4⟩
            · have c5 : ¬ bt a0 i = bt a1 j := fun h => c2 ⟨c3, c4, h⟩
              have hi : ((i : Int) < (a0.size : Int)) = True := eq_true (by omega)
              have hj : ((j : Int) < (a1.size : Int)) = True := eq_true (by omega)
              have h3b : (bt a0 i == bt a1 j) = false := by simpa using c5
              have hje : ((j : Int) == (a1.size : Int)) = false := by simpa using (by omega : ¬ (j : Int) = (a1.size : Int))
              have hwi : IntKind.i64.wrap ((i : Int) + 1) = ((i + 1 : Nat) : Int) := by rw [i64_w]; unfold wrap64; omega
              have hwj : IntKind.i64.wrap ((j : Int) + 1) = ((j + 1 : Nat) : Int) := by rw [i64_w]; unfold wrap64; omega
              have hsl : ∀ wx : World, (Instr.slice 9 (.string a1) (some (.int .i64 (j : Int))) (some (.int .i64 ((j : Int) + 1))) none).run Try.prog wx = .ok (.string (a1.extract j (j + 1))) wx := fun wx => by
                have := run_slice_string (P := Try.prog) wx 9 a1 .i64 .i64 (j : Int) ((j : Int) + 1) Try.underlying9 (by omega) (by omega) (by omega)
                rw [show (j : Int).toNat = j by omega, show ((j : Int) + 1).toNat = j + 1 by omega] at this
                exact this
              have hx1 : (a1.extract j (j + 1)).size = 1 := by rw [ByteArray.size_extract]; omega
              have hx3 : min (j + 1) a1.size - j = 1 := by omega
              have hx5 : (9223372036854775807 < e.f2.size + 1) = False := eq_false (by omega)
              by_cases c6 : rd (Of.table a0 a1) (((i : Int) + 1) * ((a1.size : Int) + 1) + (j : Int)) ≤ rd (Of.table a0 a1) ((i : Int) * ((a1.size : Int) + 1) + ((j : Int) + 1))
              · rw [if_pos (.inr ⟨c3, c6⟩)] at H
                have hle : (rd (Of.table a0 a1) (((i : Int) + 1) * ((a1.size : Int) + 1) + (j : Int)) ≤ rd (Of.table a0 a1) ((i : Int) * ((a1.size : Int) + 1) + ((j : Int) + 1))) = True := eq_true c6
                have H0 := Aside0.mk H
                clear H c6
                clear c1 c2
                go_wp2
                go_quiet (fail)
                obtain ⟨X, hX⟩ : ∃ X, wr.drewN nq = X := ⟨_, rfl⟩
                have HX : Aside0 (textdiff_Diff.St a0 a1 ba bb vB tB gB eb w ls u6 e X) := ⟨hX ▸ HS.out.drewN nq⟩
                rw [hX]
                clear hX
                have hc0 := (blk_cell HX.out.B 0).trans rfl
                have hc1 := (blk_cell HX.out.B 1).trans rfl
                have hc2 := (blk_cell HX.out.B 2).trans rfl
                have hf := fun q => blk_frozen HX.out.B q
                go_upto_region 14 with (fail)
                go_wp2_with (first | (go_at_call 22; (refine (Of.at_tb2 (by first | exact HX.out.T | exact HX.out.T.drewN _) s0 s1 hlT _ _ (by first | exact ⟨i + 1, j, by simp, rfl, by omega, by omega⟩ | exact ⟨i, j + 1, rfl, by simp, by omega, by omega⟩)).mono ?_); (rintro e w' ⟨rfl, ⟨nd, rfl⟩⟩)))
                go_roundg k1
                case measure => omega
                case rel => exact ⟨ls, true, i + 1, j, (⟨e.f0, e.f1 + 1, e.f2⟩ : S30), (by first | rfl | (simp; done)), (by first | rfl | (simp; done)), (by first | rfl | (simp; done)), ⟨H0.out⟩, ⟨by omega, by dsimp only; omega, by dsimp only; omega, by dsimp only; omega, by omega, by omega⟩, ⟨by first | exact HX.out.set 1 (.int .i64 (e.f1 + 1)) rfl | exact (HX.out.set 1 (.int .i64 (e.f1 + 1)) rfl).drewN _⟩⟩
              · rw [if_neg (fun h => h.elim (fun h => absurd h (by omega)) (fun h => c6 h.2))] at H
                have hle : (rd (Of.table a0 a1) (((i : Int) + 1) * ((a1.size : Int) + 1) + (j : Int)) ≤ rd (Of.table a0 a1) ((i : Int) * ((a1.size : Int) + 1) + ((j : Int) + 1))) = False := eq_false c6
                have H0 := Aside0.mk H
                clear H c6
                clear c1 c2
                go_wp2
                go_quiet (fail)
                obtain ⟨X, hX⟩ : ∃ X, wr.drewN nq = X := ⟨_, rfl⟩
                have HX : Aside0 (textdiff_Diff.St a0 a1 ba bb vB tB gB eb w ls u6 e X) := ⟨hX ▸ HS.out.drewN nq⟩
                rw [hX]
                clear hX
                have hc0 := (blk_cell HX.out.B 0).trans rfl
                have hc1 := (blk_cell HX.out.B 1).trans rfl
                have hc2 := (blk_cell HX.out.B 2).trans rfl
                have hf := fun q => blk_frozen HX.out.B q
                go_upto_region 14 with (fail)
                go_upto_region 17 with (first | (go_at_call 22; (refine (Of.at_tb2 (by first | exact HX.out.T | exact HX.out.T.drewN _) s0 s1 hlT _ _ (by first | exact ⟨i + 1, j, by simp, rfl, by omega, by omega⟩ | exact ⟨i, j + 1, rfl, by simp, by omega, by omega⟩)).mono ?_); (rintro e w' ⟨rfl, ⟨nd, rfl⟩⟩)))
                obtain ⟨Z, hZ⟩ : ∃ Z, Z = X ∨ ∃ n, Z = X.drewN n := ⟨X, .inl rfl⟩
                clear hc0 hc1 hc2 hf
                generalize hZ2 : World.drewN X _ = Z2
                have HZ : Aside0 (textdiff_Diff.St a0 a1 ba bb vB tB gB eb w ls u6 e Z2) := ⟨hZ2 ▸ HX.out.drewN _⟩
                clear hZ2
                have hc0 := (blk_cell HZ.out.B 0).trans rfl
                have hc1 := (blk_cell HZ.out.B 1).trans rfl
                have hc2 := (blk_cell HZ.out.B 2).trans rfl
                have hf := fun q => blk_frozen HZ.out.B q
                go_still_tail 9, (by kernel_rfl)
                go_wp2
                go_roundg k1
                case measure => omega
                case rel => exact ⟨ls, true, i, j + 1, (⟨e.f0, e.f1, e.f2 ++ a1.extract j (j + 1)⟩ : S30), (by first | rfl | (simp; done)), (by first | rfl | (simp; done)), (by first | rfl | (simp; done)), ⟨H0.out⟩, ⟨by omega, n2, n3, by dsimp only; rw [ByteArray.size_append, ByteArray.size_extract]; omega, by omega, by omega⟩, ⟨by first | exact HZ.out.set 2 (.string (e.f2 ++ a1.extract j (j + 1))) (by simp) | exact (HZ.out.set 2 (.string (e.f2 ++ a1.extract j (j + 1))) (by simp)).drewN _ | exact (HZ.out.set 2 (.string (e.f2 ++ a1.extract j (j + 1))) (by simp)).drewN 1⟩⟩
            · have hi : ((i : Int) < (a0.size : Int)) = True := eq_true (by omega)
              have hj : ((j : Int) < (a1.size : Int)) = False := eq_false (by omega)
              have hje : ((j : Int) == (a1.size : Int)) = true := by simpa using (by omega : (j : Int) = (a1.size : Int))
              have hwi : IntKind.i64.wrap ((i : Int) + 1) = ((i + 1 : Nat) : Int) := by rw [i64_w]; unfold wrap64; omega
              rw [if_pos (.inl c4)] at H
              have H0 := Aside0.mk H
              clear H
              clear c1 c2
              have CE := Aside0.mk c4
              clear c4
              go_wp2
              go_quiet (fail)
              obtain ⟨X, hX⟩ : ∃ X, wr.drewN nq = X := ⟨_, rfl⟩
              have HX : Aside0 (textdiff_Diff.St a0 a1 ba bb vB tB gB eb w ls u6 e X) := ⟨hX ▸ HS.out.drewN nq⟩
              rw [hX]
              clear hX
              have hc0 := (blk_cell HX.out.B 0).trans rfl
              have hc1 := (blk_cell HX.out.B 1).trans rfl
              have hc2 := (blk_cell HX.out.B 2).trans rfl
              have hf := fun q => blk_frozen HX.out.B q
              go_upto_region 14 with (fail)
              go_wp2
              go_roundg k1
              case measure => omega
              have c4 := CE.out
              case rel => exact ⟨ls, true, i + 1, j, (⟨e.f0, e.f1 + 1, e.f2⟩ : S30), (by first | rfl | (simp; done)), (by first | rfl | (simp; done)), (by first | rfl | (simp; done)), ⟨H0.out⟩, ⟨by omega, by dsimp only; omega, by dsimp only; omega, by dsimp only; omega, by omega, by omega⟩, ⟨by first | exact HX.out.set 1 (.int .i64 (e.f1 + 1)) rfl | exact (HX.out.set 1 (.int .i64 (e.f1 + 1)) rfl).drewN _⟩⟩
            · have hi : ((i : Int) < (a0.size : Int)) = False := eq_false (by omega)
              have hj : ((j : Int) < (a1.size : Int)) = True := eq_true (by omega)
              have hje : ((j : Int) == (a1.size : Int)) = false := by simpa using (by omega : ¬ (j : Int) = (a1.size : Int))
              have hwj : IntKind.i64.wrap ((j : Int) + 1) = ((j + 1 : Nat) : Int) := by rw [i64_w]; unfold wrap64; omega
              have hsl : ∀ wx : World, (Instr.slice 9 (.string a1) (some (.int .i64 (j : Int))) (some (.int .i64 ((j : Int) + 1))) none).run Try.prog wx = .ok (.string (a1.extract j (j + 1))) wx := fun wx => by
                have := run_slice_string (P := Try.prog) wx 9 a1 .i64 .i64 (j : Int) ((j : Int) + 1) Try.underlying9 (by omega) (by omega) (by omega)
                rw [show (j : Int).toNat = j by omega, show ((j : Int) + 1).toNat = j + 1 by omega] at this
                exact this
              have hx1 : (a1.extract j (j + 1)).size = 1 := by rw [ByteArray.size_extract]; omega
              have hx3 : min (j + 1) a1.size - j = 1 := by omega
              have hx5 : (9223372036854775807 < e.f2.size + 1) = False := eq_false (by omega)
              rw [if_neg (fun h => h.elim (fun h => absurd h (by omega)) (fun h => absurd h.1 (by omega)))] at H
              have H0 := Aside0.mk H
              clear H
              clear c1 c2
              have CE := Aside0.mk c3
              clear c3
              go_wp2
              go_quiet (fail)
              obtain ⟨X, hX⟩ : ∃ X, wr.drewN nq = X := ⟨_, rfl⟩
              have HX : Aside0 (textdiff_Diff.St a0 a1 ba bb vB tB gB eb w ls u6 e X) := ⟨hX ▸ HS.out.drewN nq⟩
              rw [hX]
              clear hX
              have hc0 := (blk_cell HX.out.B 0).trans rfl
              have hc1 := (blk_cell HX.out.B 1).trans rfl
              have hc2 := (blk_cell HX.out.B 2).trans rfl
              have hf := fun q => blk_frozen HX.out.B q
              go_upto_region 14 with (fail)
              go_upto_region 17 with (fail)
              go_still_tail 9, (by kernel_rfl)
              go_wp2
              go_roundg k1
              case measure => omega
              case rel => exact ⟨ls, true, i, j + 1, (⟨e.f0, e.f1, e.f2 ++ a1.extract j (j + 1)⟩ : S30), (by first | rfl | (simp; done)), (by first | rfl | (simp; done)), (by first | rfl | (simp; done)), ⟨H0.out⟩, ⟨by omega, n2, n3, by dsimp only; rw [ByteArray.size_append, ByteArray.size_extract]; omega, by omega, by omega⟩, ⟨by first | exact HX.out.set 2 (.string (e.f2 ++ a1.extract j (j + 1))) (by simp) | exact (HX.out.set 2 (.string (e.f2 ++ a1.extract j (j + 1))) (by simp)).drewN _ | exact (HX.out.set 2 (.string (e.f2 ++ a1.extract j (j + 1))) (by simp)).drewN 1⟩⟩
          · have ho := Bool.eq_false_iff.mpr ho
            subst ho
            simp only [Bool.false_eq_true, if_false] at H
            rcases (by omega : (i < a0.size ∧ j < a1.size) ∨ (i < a0.size ∧ j = a1.size) ∨ (i = a0.size ∧ j < a1.size)) with ⟨c3, c4⟩ | ⟨c3, c4⟩ | ⟨c3, c4⟩
            · have c5 : ¬ bt a0 i = bt a1 j := fun h => c2 ⟨c3, c4, h⟩
              have hi : ((i : Int) < (a0.size : Int)) = True := eq_true (by omega)
              have hj : ((j : Int) < (a1.size : Int)) = True := eq_true (by omega)
              have h3b : (bt a0 i == bt a1 j) = false := by simpa using c5
              have hje : ((j : Int) == (a1.size : Int)) = false := by simpa using (by omega : ¬ (j : Int) = (a1.size : Int))
              have hwi : IntKind.i64.wrap ((i : Int) + 1) = ((i + 1 : Nat) : Int) := by rw [i64_w]; unfold wrap64; omega
              have hwj : IntKind.i64.wrap ((j : Int) + 1) = ((j + 1 : Nat) : Int) := by rw [i64_w]; unfold wrap64; omega
              have hsl : ∀ wx : World, (Instr.slice 9 (.string a1) (some (.int .i64 (j : Int))) (some (.int .i64 ((j : Int) + 1))) none).run Try.prog wx = .ok (.string (a1.extract j (j + 1))) wx := fun wx => by
                have := run_slice_string (P := Try.prog) wx 9 a1 .i64 .i64 (j : Int) ((j : Int) + 1) Try.underlying9 (by omega) (by omega) (by omega)
                rw [show (j : Int).toNat = j by omega, show ((j : Int) + 1).toNat = j + 1 by omega] at this
                exact this
              have hx1 : (a1.extract j (j + 1)).size = 1 := by rw [ByteArray.size_extract]; omega
              have hx3 : min (j + 1) a1.size - j = 1 := by omega
              have hx5 : (9223372036854775807 < e.f2.size + 1) = False := eq_false (by omega)
              by_cases c6 : rd (Of.table a0 a1) (((i : Int) + 1) * ((a1.size : Int) + 1) + (j : Int)) ≤ rd (Of.table a0 a1) ((i : Int) * ((a1.size : Int) + 1) + ((j : Int) + 1))
              · rw [if_pos (.inr ⟨c3, c6⟩)] at H
                have hle : (rd (Of.table a0 a1) (((i : Int) + 1) * ((a1.size : Int) + 1) + (j : Int)) ≤ rd (Of.table a0 a1) ((i : Int) * ((a1.size : Int) + 1) + ((j : Int) + 1))) = True := eq_true c6
                have H0 := Aside0.mk H
                clear H c6
                clear c1 c2
                go_wp2
                go_quiet (fail)
                obtain ⟨X, hX⟩ : ∃ X, wr.drewN nq = X := ⟨_, rfl⟩
                have HX : Aside0 (textdiff_Diff.St a0 a1 ba bb vB tB gB eb w ls u6 e X) := ⟨hX ▸ HS.out.drewN nq⟩
                rw [hX]
                clear hX
                have hc0 := (blk_cell HX.out.B 0).trans rfl
                have hc1 := (blk_cell HX.out.B 1).trans rfl
                have hc2 := (blk_cell HX.out.B 2).trans rfl
                have hf := fun q => blk_frozen HX.out.B q
                go_upto_region 14 with (fail)
                clear hc0 hc1 hc2 hf
                obtain ⟨Y, hY⟩ : ∃ Y, ((X.setCell ⟨eb, 0, none⟩ (.int .i64 (i : Int))).setCell ⟨eb, 1, none⟩ (.int .i64 0)).setCell ⟨eb, 2, none⟩ (.string ⟨#[]⟩) = Y := ⟨_, rfl⟩
                have HY : Aside0 (textdiff_Diff.St a0 a1 ba bb vB tB gB eb w ls u6 ⟨i, 0, ⟨#[]⟩⟩ Y) := ⟨hY ▸ ((HX.out.set (e' := ⟨i, e.f1, e.f2⟩) 0 (.int .i64 (i : Int)) rfl).set (e' := ⟨i, 0, e.f2⟩) 1 (.int .i64 0) rfl).set (e' := ⟨i, 0, ⟨#[]⟩⟩) 2 (.string ⟨#[]⟩) rfl⟩
                rw [hY]
                clear hY
                have hc0 := (blk_cell HY.out.B 0).trans rfl
                have hc1 := (blk_cell HY.out.B 1).trans rfl
                have hc2 := (blk_cell HY.out.B 2).trans rfl
                have hf := fun q => blk_frozen HY.out.B q
                go_wp2_with (first | (go_at_call 22; (refine (Of.at_tb2 (by first | exact HY.out.T | exact HY.out.T.drewN _) s0 s1 hlT _ _ (by first | exact ⟨i + 1, j, by simp, rfl, by omega, by omega⟩ | exact ⟨i, j + 1, rfl, by simp, by omega, by omega⟩)).mono ?_); (rintro e w' ⟨rfl, ⟨nd, rfl⟩⟩)))
                go_roundg k1
                case measure => omega
                case rel => exact ⟨ls, true, i + 1, j, (⟨(i : Int), 1, (⟨#[]⟩ : ByteArray)⟩ : S30), (by first | rfl | (simp; done)), (by first | rfl | (simp; done)), (by first | rfl | (simp; done)), ⟨H0.out⟩, ⟨by omega, by simp, by simp; omega, Nat.zero_le _, by omega, by omega⟩, ⟨by first | exact HY.out.set 1 (.int .i64 (1)) rfl | exact (HY.out.set 1 (.int .i64 (1)) rfl).drewN _⟩⟩
              · rw [if_neg (fun h => h.elim (fun h => absurd h (by omega)) (fun h => c6 h.2))] at H
                have hle : (rd (Of.table a0 a1) (((i : Int) + 1) * ((a1.size : Int) + 1) + (j : Int)) ≤ rd (Of.table a0 a1) ((i : Int) * ((a1.size : Int) + 1) + ((j : Int) + 1))) = False := eq_false c6
                have H0 := Aside0.mk H
                clear H c6
                clear c1 c2
                go_wp2
                go_quiet (fail)
                obtain ⟨X, hX⟩ : ∃ X, wr.drewN nq = X := ⟨_, rfl⟩
                have HX : Aside0 (textdiff_Diff.St a0 a1 ba bb vB tB gB eb w ls u6 e X) := ⟨hX ▸ HS.out.drewN nq⟩
                rw [hX]
                clear hX
                have hc0 := (blk_cell HX.out.B 0).trans rfl
                have hc1 := (blk_cell HX.out.B 1).trans rfl
                have hc2 := (blk_cell HX.out.B 2).trans rfl
                have hf := fun q => blk_frozen HX.out.B q
                go_upto_region 14 with (fail)
                clear hc0 hc1 hc2 hf
                obtain ⟨Y, hY⟩ : ∃ Y, ((X.setCell ⟨eb, 0, none⟩ (.int .i64 (i : Int))).setCell ⟨eb, 1, none⟩ (.int .i64 0)).setCell ⟨eb, 2, none⟩ (.string ⟨#[]⟩) = Y := ⟨_, rfl⟩
                have HY : Aside0 (textdiff_Diff.St a0 a1 ba bb vB tB gB eb w ls u6 ⟨i, 0, ⟨#[]⟩⟩ Y) := ⟨hY ▸ ((HX.out.set (e' := ⟨i, e.f1, e.f2⟩) 0 (.int .i64 (i : Int)) rfl).set (e' := ⟨i, 0, e.f2⟩) 1 (.int .i64 0) rfl).set (e' := ⟨i, 0, ⟨#[]⟩⟩) 2 (.string ⟨#[]⟩) rfl⟩
                rw [hY]
                clear hY
                have hc0 := (blk_cell HY.out.B 0).trans rfl
                have hc1 := (blk_cell HY.out.B 1).trans rfl
                have hc2 := (blk_cell HY.out.B 2).trans rfl
                have hf := fun q => blk_frozen HY.out.B q
                go_upto_region 17 with (first | (go_at_call 22; (refine (Of.at_tb2 (by first | exact HY.out.T | exact HY.out.T.drewN _) s0 s1 hlT _ _ (by first | exact ⟨i + 1, j, by simp, rfl, by omega, by omega⟩ | exact ⟨i, j + 1, rfl, by simp, by omega, by omega⟩)).mono ?_); (rintro e w' ⟨rfl, ⟨nd, rfl⟩⟩)))
                obtain ⟨Z, hZ⟩ : ∃ Z, Z = Y ∨ ∃ n, Z = Y.drewN n := ⟨Y, .inl rfl⟩
                clear hc0 hc1 hc2 hf
                generalize hZ2 : World.drewN Y _ = Z2
                have HZ : Aside0 (textdiff_Diff.St a0 a1 ba bb vB tB gB eb w ls u6 ⟨i, 0, ⟨#[]⟩⟩ Z2) := ⟨hZ2 ▸ HY.out.drewN _⟩
                clear hZ2
                have hc0 := (blk_cell HZ.out.B 0).trans rfl
                have hc1 := (blk_cell HZ.out.B 1).trans rfl
                have hc2 := (blk_cell HZ.out.B 2).trans rfl
                have hf := fun q => blk_frozen HZ.out.B q
                go_still_tail 9, (by kernel_rfl)
                go_wp2
                go_roundg k1
                case measure => omega
                case rel => exact ⟨ls, true, i, j + 1, (⟨(i : Int), 0, (⟨#[]⟩ : ByteArray) ++ a1.extract j (j + 1)⟩ : S30), (by first | rfl | (simp; done)), (by first | rfl | (simp; done)), (by first | rfl | (simp; done)), ⟨H0.out⟩, ⟨by omega, Int.le_refl _, by simp, by rw [show ((⟨#[]⟩ : ByteArray) ++ a1.extract j (j + 1)).size = 0 + (a1.extract j (j + 1)).size from ByteArray.size_append, hx1]; omega, by omega, by omega⟩, ⟨by first | exact HZ.out.set 2 (.string (a1.extract j (j + 1))) (by rw [show (⟨#[]⟩ : ByteArray) ++ a1.extract j (j + 1) = a1.extract j (j + 1) from ByteArray.empty_append]; rfl) | exact (HZ.out.set 2 (.string (a1.extract j (j + 1))) (by rw [show (⟨#[]⟩ : ByteArray) ++ a1.extract j (j + 1) = a1.extract j (j + 1) from ByteArray.empty_append]; rfl)).drewN _ | exact (HZ.out.set 2 (.string (a1.extract j (j + 1))) (by rw [show (⟨#[]⟩ : ByteArray) ++ a1.extract j (j + 1) = a1.extract j (j + 1) from ByteArray.empty_append]; rfl)).drewN 1⟩⟩
            · have hi : ((i : Int) < (a0.size : Int)) = True := eq_true (by omega)
              have hj : ((j : Int) < (a1.size : Int)) = False := eq_false (by omega)
              have hje : ((j : Int) == (a1.size : Int)) = true := by simpa using (by omega : (j : Int) = (a1.size : Int))
              have hwi : IntKind.i64.wrap ((i : Int) + 1) = ((i + 1 : Nat) : Int) := by rw [i64_w]; unfold wrap64; omega
              rw [if_pos (.inl c4)] at H
              have H0 := Aside0.mk H
              clear H
              clear c1 c2
              have CE := Aside0.mk c4
              clear c4
              go_wp2
              go_quiet (fail)
              obtain ⟨X, hX⟩ : ∃ X, wr.drewN nq = X := ⟨_, rfl⟩
              have HX : Aside0 (textdiff_Diff.St a0 a1 ba bb vB tB gB eb w ls u6 e X) := ⟨hX ▸ HS.out.drewN nq⟩
              rw [hX]
              clear hX
              have hc0 := (blk_cell HX.out.B 0).trans rfl
              have hc1 := (blk_cell HX.out.B 1).trans rfl
              have hc2 := (blk_cell HX.out.B 2).trans rfl
              have hf := fun q => blk_frozen HX.out.B q
              go_upto_region 14 with (fail)
              clear hc0 hc1 hc2 hf
              obtain ⟨Y, hY⟩ : ∃ Y, ((X.setCell ⟨eb, 0, none⟩ (.int .i64 (i : Int))).setCell ⟨eb, 1, none⟩ (.int .i64 0)).setCell ⟨eb, 2, none⟩ (.string ⟨#[]⟩) = Y := ⟨_, rfl⟩
              have HY : Aside0 (textdiff_Diff.St a0 a1 ba bb vB tB gB eb w ls u6 ⟨i, 0, ⟨#[]⟩⟩ Y) := ⟨hY ▸ ((HX.out.set (e' := ⟨i, e.f1, e.f2⟩) 0 (.int .i64 (i : Int)) rfl).set (e' := ⟨i, 0, e.f2⟩) 1 (.int .i64 0) rfl).set (e' := ⟨i, 0, ⟨#[]⟩⟩) 2 (.string ⟨#[]⟩) rfl⟩
              rw [hY]
              clear hY
              have hc0 := (blk_cell HY.out.B 0).trans rfl
              have hc1 := (blk_cell HY.out.B 1).trans rfl
              have hc2 := (blk_cell HY.out.B 2).trans rfl
              have hf := fun q => blk_frozen HY.out.B q
              go_wp2
              go_roundg k1
              case measure => omega
              have c4 := CE.out
              case rel => exact ⟨ls, true, i + 1, j, (⟨(i : Int), 1, (⟨#[]⟩ : ByteArray)⟩ : S30), (by first | rfl | (simp; done)), (by first | rfl | (simp; done)), (by first | rfl | (simp; done)), ⟨H0.out⟩, ⟨by omega, by simp, by simp; omega, Nat.zero_le _, by omega, by omega⟩, ⟨by first | exact HY.out.set 1 (.int .i64 (1)) rfl | exact (HY.out.set 1 (.int .i64 (1)) rfl).drewN _⟩⟩
            · have hi : ((i : Int) < (a0.size : Int)) = False := eq_false (by omega)
              have hj : ((j : Int) < (a1.size : Int)) = True := eq_true (by omega)
              have hje : ((j : Int) == (a1.size : Int)) = false := by simpa using (by omega : ¬ (j : Int) = (a1.size : Int))
              have hwj : IntKind.i64.wrap ((j : Int) + 1) = ((j + 1 : Nat) : Int) := by rw [i64_w]; unfold wrap64; omega
              have hsl : ∀ wx : World, (Instr.slice 9 (.string a1) (some (.int .i64 (j : Int))) (some (.int .i64 ((j : Int) + 1))) none).run Try.prog wx = .ok (.string (a1.extract j (j + 1))) wx := fun wx => by
                have := run_slice_string (P := Try.prog) wx 9 a1 .i64 .i64 (j : Int) ((j : Int) + 1) Try.underlying9 (by omega) (by omega) (by omega)
                rw [show (j : Int).toNat = j by omega, show ((j : Int) + 1).toNat = j + 1 by omega] at this
                exact this
              have hx1 : (a1.extract j (j + 1)).size = 1 := by rw [ByteArray.size_extract]; omega
              have hx3 : min (j + 1) a1.size - j = 1 := by omega
              have hx5 : (9223372036854775807 < e.f2.size + 1) = False := eq_false (by omega)
              rw [if_neg (fun h => h.elim (fun h => absurd h (by omega)) (fun h => absurd h.1 (by omega)))] at H
              have H0 := Aside0.mk H
              clear H
              clear c1 c2
              have CE := Aside0.mk c3
              clear c3
              go_wp2
              go_quiet (fail)
              obtain ⟨X, hX⟩ : ∃ X, wr.drewN nq = X := ⟨_, rfl⟩
              have HX : Aside0 (textdiff_Diff.St a0 a1 ba bb vB tB gB eb w ls u6 e X) := ⟨hX ▸ HS.out.drewN nq⟩
              rw [hX]
              clear hX
              have hc0 := (blk_cell HX.out.B 0).trans rfl
              have hc1 := (blk_cell HX.out.B 1).trans rfl
              have hc2 := (blk_cell HX.out.B 2).trans rfl
              have hf := fun q => blk_frozen HX.out.B q
              go_upto_region 14 with (fail)
              clear hc0 hc1 hc2 hf
              obtain ⟨Y, hY⟩ : ∃ Y, ((X.setCell ⟨eb, 0, none⟩ (.int .i64 (i : Int))).setCell ⟨eb, 1, none⟩ (.int .i64 0)).setCell ⟨eb, 2, none⟩ (.string ⟨#[]⟩) = Y := ⟨_, rfl⟩
              have HY : Aside0 (textdiff_Diff.St a0 a1 ba bb vB tB gB eb w ls u6 ⟨i, 0, ⟨#[]⟩⟩ Y) := ⟨hY ▸ ((HX.out.set (e' := ⟨i, e.f1, e.f2⟩) 0 (.int .i64 (i : Int)) rfl).set (e' := ⟨i, 0, e.f2⟩) 1 (.int .i64 0) rfl).set (e' := ⟨i, 0, ⟨#[]⟩⟩) 2 (.string ⟨#[]⟩) rfl⟩
              rw [hY]
              clear hY
              have hc0 := (blk_cell HY.out.B 0).trans rfl
              have hc1 := (blk_cell HY.out.B 1).trans rfl
              have hc2 := (blk_cell HY.out.B 2).trans rfl
              have hf := fun q => blk_frozen HY.out.B q
              go_upto_region 17 with (fail)
              go_still_tail 9, (by kernel_rfl)
              go_wp2
              go_roundg k1
              case measure => omega
              case rel => exact ⟨ls, true, i, j + 1, (⟨(i : Int), 0, (⟨#[]⟩ : ByteArray) ++ a1.extract j (j + 1)⟩ : S30), (by first | rfl | (simp; done)), (by first | rfl | (simp; done)), (by first | rfl | (simp; done)), ⟨H0.out⟩, ⟨by omega, Int.le_refl _, by simp, by rw [show ((⟨#[]⟩ : ByteArray) ++ a1.extract j (j + 1)).size = 0 + (a1.extract j (j + 1)).size from ByteArray.size_append, hx1]; omega, by omega, by omega⟩, ⟨by first | exact HY.out.set 2 (.string (a1.extract j (j + 1))) (by rw [show (⟨#[]⟩ : ByteArray) ++ a1.extract j (j + 1) = a1.extract j (j + 1) from ByteArray.empty_append]; rfl) | exact (HY.out.set 2 (.string (a1.extract j (j + 1))) (by rw [show (⟨#[]⟩ : ByteArray) ++ a1.extract j (j + 1) = a1.extract j (j + 1) from ByteArray.empty_append]; rfl)).drewN _ | exact (HY.out.set 2 (.string (a1.extract j (j + 1))) (by rw [show (⟨#[]⟩ : ByteArray) ++ a1.extract j (j + 1) = a1.extract j (j + 1) from ByteArray.empty_append]; rfl)).drewN 1⟩⟩

end Go.Proofs.Ythhgfagnallcnaa.PA
