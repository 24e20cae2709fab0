/- A part of a law as a program wrote it (wip/myprint.py, over the print of the kit): a function, what its call does, or the row of a law; Lean checks it. -/
import Derived.Test.YtfiefplalpjlpaaPAx0
import Derived.Test.YtfiefplalpjlpaaPAx5
namespace Go.Proofs.Ytfiefplalpjlpaa.PA
open Go.RowKit Go.Proofs.YtfiefplalpjlpaaW.PrintWords Go.Proofs.YtfiefplalpjlpaaW.PrintLast Go.Proofs.YtfiefplalpjlpaaW.PrintMore
attribute [local go_sem] max2_int min2_int max_two min_two max_three min_three max_four min_four   -- for this text's walks alone
set_option linter.unusedVariables false
set_option linter.unusedSimpArgs false

/-! ### wal_Encode: function 12 -/
-- (a text of its own, pasted by myprint.py)
def wal_Encode.go : List ByteArray → ByteArray → Option ByteArray
  | [], acc => some acc
  | x :: xs, acc => (wal_Append.f ⟨#[]⟩ x).bind fun t => if acc.size + t.size ≤ 140737488355328 then wal_Encode.go xs (acc ++ t) else none
def wal_Encode.f (l0 : List ByteArray) : Option ByteArray := wal_Encode.go l0 ⟨#[]⟩
theorem wal_Encode.drop_rd (l : List ByteArray) (n : Nat) (h : n < l.length) : l.drop n = rdOf ByteArray.empty l n :: l.drop (n + 1) := by
  rw [List.drop_eq_getElem_cons h]
  congr 1
  simp [rdOf, List.getD, h]
theorem wal_Encode.cells (a b : ByteArray) : Lib.byteCells a.data.toList ++ Lib.strCells b = Lib.byteCells (a ++ b).data.toList := by
  rw [Lib.strCells_eq, ← Lib.byteCells_append]
  congr 1
theorem wal_Encode.keep {w w1 : World} {B b : Nat} {bs : List Value} (h : Lib.IsBuilder 38 5 B b bs w) (hb : Below w.heap.size w w1) : Lib.IsBuilder 38 5 B b bs w1 := by
  have one : ∀ p, Lib.BuilderAt 38 5 B b p bs w → Lib.BuilderAt 38 5 B b p bs w1 := by
    rintro p ⟨hB, v, hbk, hown, hne⟩
    exact ⟨hB, v, blk_grown hbk (grown_of_below hb none) (by simp), pw_own_below hown hb, hne⟩
  exact h.imp (one _) (one _)
set_option maxHeartbeats 8000000 in
set_option maxRecDepth 100000 in
theorem wal_Encode.calls (A0 : Option Addr) (c0 : Nat) (l0 : List ByteArray) (r : ByteArray) (w : World) (hr0 : Kd.C Kd.string w A0 l0.length l0) (hc0 : l0.length ≤ c0) (h : wal_Encode.f l0 = some r) :
    Calls Try.prog 12 #[.slice A0 l0.length c0] w fun e w' => e = .returned (.string r) ∧ Below w.heap.size w w' := by
  have HR0 := Aside0.mk hr0
  have HC0 := Aside0.mk hc0
  have HL := Aside0.mk (Kd.C_max hr0)
  clear hr0 hc0
  have H0 := Aside0.mk h
  clear h
  have h0 := Aside0.mk (Lib.fresh_isBuilder 38 5 w)
  have b0 := Aside0.mk (show Below w.heap.size w (w.alloc (.cells #[.pointer none, .slice none 0 0] 38)) from (Below.refl _ w).alloc (Nat.le_refl _) _)
  go_enter Try.func12, Try.ntmps12
  go_wp2
  go_loopw [8] (fun i wr => ∃ (n : Nat) (acc : ByteArray), n ≤ l0.length ∧ i = .int .i64 n ∧ Aside0 (wal_Encode.go (l0.drop n) acc = some r) ∧ Aside0 (Lib.IsBuilder 38 5 w.heap.size w.heap.size (Lib.byteCells acc.data.toList) wr) ∧ Aside0 (Below w.heap.size w wr)) (fun i _ => l0.length - (intOf i).toNat)
  case atStart => exact ⟨0, ⟨#[]⟩, Nat.zero_le _, rfl, ⟨H0.out⟩, ⟨h0.out⟩, ⟨b0.out⟩⟩
  case round =>
    obtain ⟨n, acc, hn, rfl, HG, HI, HW⟩ := hrel
    by_cases hlt : n < l0.length
    · have HG1 := HG.out
      rw [wal_Encode.drop_rd l0 n hlt] at HG1
      have HG2 := Option.bind_eq_some_iff.mp (show (wal_Append.f ⟨#[]⟩ (rdOf ByteArray.empty l0 n)).bind _ = some r from HG1)
      clear HG1
      obtain ⟨t, ht, HG3⟩ := HG2
      by_cases hsz : acc.size + t.size ≤ 140737488355328
      · rw [if_pos hsz] at HG3
        have HS := Aside0.mk hsz
        have HT := Aside0.mk ht
        have HN := Aside0.mk HG3
        clear hsz ht HG3
        obtain ⟨ad, ead, hx⟩ := Kd.at_string (Kd.C_below HR0.out HW.out) n (by omega) (by omega)
        cases ead
        rw [Int.toNat_natCast] at hx
        have HL1 := HL.out
        go_wp2_with (go_at_call 14; refine (wal_Append.calls ⟨#[]⟩ (rdOf ByteArray.empty l0 n) t _ HT.out).mono ?_)
        rintro e w1 ⟨rfl, hb1⟩
        have HI1 := Aside0.mk (wal_Encode.keep HI.out hb1)
        have HW1 := Aside0.mk (below_then HW.out HW.out.size hb1)
        clear hb1
        go_wp2_with (go_at_call 19; refine (Bld.write w.heap.size w.heap.size (Lib.byteCells acc.data.toList) t _ HI1.out (by rw [Lib.byteCells_length, data_length]; exact HS.out) HW1.out.size).mono ?_)
        rintro e w2 ⟨rfl, hi2, hb2⟩
        have HI2 := Aside0.mk (show Lib.IsBuilder 38 5 w.heap.size w.heap.size (Lib.byteCells (acc ++ t).data.toList) w2 from .inr (by rw [← wal_Encode.cells]; exact hi2))
        have HW2 := Aside0.mk (HW1.out.trans hb2)
        clear hi2 hb2
        go_wp2
        go_roundw
        case rel => exact ⟨n + 1, acc ++ t, by omega, by go_num, HN, HI2, HW2⟩
        case measure => simp [intOf]; omega
      · rw [if_neg hsz] at HG3
        exact absurd HG3 (by simp)
    · have e : n = l0.length := by omega
      subst e
      have HG1 := HG.out
      rw [List.drop_length] at HG1
      obtain rfl := Option.some.inj HG1
      clear HG1
      have HL1 := HL.out
      go_wp2_with (go_at_call 20; refine (Shf.Builder_String_any w.heap.size w.heap.size acc.data.toList _ HI.out HW.out.size).mono ?_)
      rintro e w1 ⟨rfl, hb1⟩
      go_wp2
      go_ret
      exact ⟨rfl, HW.out.trans hb1⟩

end Go.Proofs.Ytfiefplalpjlpaa.PA
