/- The document's examples hold: what awake answers. -/
import Derived.Test.YthhgfagnallcnaaTbl
import Derived.Test.YthhgfagnallcnaaPAx9
import Derived.Test.YthhgfagnallcnaaPAx10
import Derived.KernelRfl
namespace Go.Proofs.Ythhgfagnallcnaa.Awa
open Go Go.RowKit Go.Proofs.Ythhgfagnallcnaa.PA Go.Proofs.YthhgfagnallcnaaW.PrintWords Go.Proofs.Ythhgfagnallcnaa.Eds Go.Proofs.Ythhgfagnallcnaa.Tbl
set_option linter.unusedVariables false

theorem dist_ex : textdiff_Distance.f (⟨#[107, 105, 116, 116, 101, 110]⟩ : ByteArray) (⟨#[115, 105, 116, 116, 105, 110, 103]⟩ : ByteArray) = some 5 := by kernel_rfl
theorem diff_ex : textdiff_Diff.f (⟨#[97, 98, 99, 100]⟩ : ByteArray) (⟨#[97, 120, 99, 100]⟩ : ByteArray) = some [⟨1, 1, (⟨#[120]⟩ : ByteArray)⟩] := by kernel_rfl
theorem hull_ex (k : Nat) : textdiff_Hull.f (k + 20) (⟨#[97, 98, 99, 100]⟩ : ByteArray) (⟨#[97, 98, 120, 98, 99, 100]⟩ : ByteArray) = some (2, 0, (⟨#[120, 98]⟩ : ByteArray)) := by kernel_rfl
theorem same_ex (k : Nat) : emendateref03_Same.f (k + 20) [⟨1, 1, (⟨#[120]⟩ : ByteArray)⟩] [⟨1, 1, (⟨#[120]⟩ : ByteArray)⟩] = some true := by
  have e : (⟨#[120]⟩ : ByteArray).toList = [120] := by rw [ByteArray.toList_eq]
  unfold emendateref03_Same.f
  rw [if_pos rfl, emendateref03_Same.l0, if_pos (by decide), if_pos (by decide), if_pos (by decide), if_neg, emendateref03_Same.l0, if_neg]
  · have z : wrap64 (0 + 1) = 1 := by kernel_rfl
    rw [z]; decide
  · simp
theorem awake_ex (k : Nat) (hk : 20 ≤ k) : emendatelaw06_awake.f k = some true := by
  obtain ⟨k, rfl⟩ : ∃ j, k = j + 20 := ⟨k - 20, by omega⟩
  unfold emendatelaw06_awake.f
  rw [dist_ex, Option.bind_some, if_pos rfl, diff_ex, Option.bind_some, same_ex, Option.bind_some, if_pos rfl, hull_ex, Option.bind_some]
  have e : (⟨#[120, 98]⟩ : ByteArray).toList = [120, 98] := by rw [ByteArray.toList_eq]
  simp only [e]
  rfl
theorem few_ex (a b : ByteArray) : emendatelaw06_few.f a b = some (decide (a.size ≤ 80 ∧ b.size ≤ 80)) := by
  unfold emendatelaw06_few.f
  by_cases h : (a.size : Int) ≤ 80
  · rw [if_pos h]
    congr 1
    exact decide_eq_decide.2 ⟨fun g => ⟨by omega, by omega⟩, fun g => by omega⟩
  · rw [if_neg h, decide_eq_false (by omega)]
theorem dist_f {a b : ByteArray} (ha : a.size ≤ 1000) (hb : b.size ≤ 1000) : textdiff_Distance.f a b = some (D (B a) (B b) : Int) := by
  unfold textdiff_Distance.f
  rw [if_pos ⟨ha, hb⟩, table_0 ha hb]
end Go.Proofs.Ythhgfagnallcnaa.Awa
