/- A part of a law as a program wrote it (wip/myprint.py, over the print of the kit): a function, what its call does, or the row of a law; Lean checks it. -/
import Derived.Test.YtfiefplalpjlpaaPAx0
namespace Go.Proofs.Ytfiefplalpjlpaa.PA
open Go.RowKit Go.Proofs.YtfiefplalpjlpaaW.PrintWords Go.Proofs.YtfiefplalpjlpaaW.PrintLast Go.Proofs.YtfiefplalpjlpaaW.PrintMore
attribute [local go_sem] max2_int min2_int max_two min_two max_three min_three max_four min_four   -- for this text's walks alone
set_option linter.unusedVariables false
set_option linter.unusedSimpArgs false

/-! ### wal_hash_add: function 28 -/
-- (a text of its own, pasted by myprint.py)
def wal_hash_add.step (h b : Int) : Int := Go.bits .xor .u32 h (b % 4294967296) * 16777619 % 4294967296
def wal_hash_add.f (a0 : Int) (a1 : ByteArray) : Option Int := if a1.size ≤ 9223372036854775807 then some ((bytesOf a1).foldl wal_hash_add.step a0) else none
theorem wal_hash_add.snoc (s : ByteArray) (a : Int) (n : Nat) (h : n < s.size) : ((bytesOf s).take (n + 1)).foldl wal_hash_add.step a = wal_hash_add.step (((bytesOf s).take n).foldl wal_hash_add.step a) (rd (bytesOf s) n) := by
  have hl : n < (bytesOf s).length := by rw [bytesOf_length]; exact h
  rw [List.take_succ_eq_append_getElem hl, List.foldl_append]
  show wal_hash_add.step _ _ = _
  congr 1
  unfold rd
  rw [Int.toNat_natCast, List.getD_eq_getElem?_getD, List.getElem?_eq_getElem hl]; rfl
set_option maxHeartbeats 8000000 in
set_option maxRecDepth 100000 in
theorem wal_hash_add.calls (a0 : Int) (a1 : ByteArray) (r : Int) (w : World) (h : wal_hash_add.f a0 a1 = some r) :
    Calls Try.prog 28 #[.int .u32 a0, .string a1] w fun e w' => e = .returned (.int .u32 r) ∧ Below w.heap.size w w' := by
  have hs : a1.size ≤ 9223372036854775807 := by
    unfold wal_hash_add.f at h
    by_cases hs : a1.size ≤ 9223372036854775807
    · exact hs
    · rw [if_neg hs] at h; cases h
  have hr : (bytesOf a1).foldl wal_hash_add.step a0 = r := by
    unfold wal_hash_add.f at h; rw [if_pos hs] at h; exact Option.some.inj h
  clear h
  have HR := Aside0.mk hr
  clear hr
  have HB := Aside0.mk (bytes_below (Below.refl w.heap.size w) (Nat.le_refl _) 5 a1)
  have hcv := print_bytes (P := Try.prog) 9 34 5 Try.underlying9 Try.underlying34 Try.underlying5 a1 w
  have HRd := Aside0.mk (bytes_reads w 5 a1 hs)
  obtain ⟨w1, hw1⟩ : ∃ w1, w1 = Lib.bytesWorld w 5 a1 := ⟨_, rfl⟩
  rw [← hw1] at HB hcv HRd
  have HW := Aside0.mk hw1
  clear hw1
  go_enter Try.func28, Try.ntmps28
  go_wp2
  go_loop [0, 10] (fun h i => ∃ n : Nat, n ≤ a1.size ∧ i = .int .i64 n ∧ h = .int .u32 (((bytesOf a1).take n).foldl wal_hash_add.step a0)) (fun _ i => a1.size - (intOf i).toNat)
  case atStart => exact ⟨0, Nat.zero_le _, rfl, rfl⟩
  case round =>
    obtain ⟨n, hn, rfl, rfl⟩ := hrel
    by_cases hlt : n < a1.size
    · obtain ⟨ad, ead, hx⟩ := HRd.out.at_ n (by omega) (by omega)
      cases ead
      rw [add_plain, Int.toNat_natCast] at hx
      go_wp2
      go_round
      case rel => exact ⟨n + 1, by omega, by go_num, by rw [wal_hash_add.snoc a1 a0 n hlt]; rfl⟩
      case measure => simp [intOf]; omega
    · go_wp2
      go_ret
      have e : n = a1.size := by omega
      have he := HR.out
      have hB := HB.out
      refine ⟨?_, hB⟩
      rw [← he, e, List.take_of_length_le (by rw [bytesOf_length]; omega)]; rfl

end Go.Proofs.Ytfiefplalpjlpaa.PA
