/- What the rope's laws share: variables in memory, replace as one contract. -/
import Derived.Test.YtmoceagbmgoijaaLow
import Derived.KernelRfl
namespace Go.Proofs.Ytmoceagbmgoijaa.Rop
open Go.RowKit Go.Proofs.YtmoceagbmgoijaaW.PrintWords Go.Proofs.YtmoceagbmgoijaaW.PrintLast Go.Proofs.YtmoceagbmgoijaaW.PrintMore Go.Proofs.Ytmoceagbmgoijaa.Tre Go.Proofs.Ytmoceagbmgoijaa.PA
attribute [local go_sem] max2_int min2_int max_two min_two max_three min_three max_four min_four
set_option linter.unusedVariables false
set_option linter.unusedSimpArgs false

/-- rope variables in memory, from the door on -/
structure Fr (w : World) (L : List (Nat × Option Addr × Option T)) (x : World) : Prop where
  b : Below w.heap.size w x
  c : ∀ q ∈ L, Cel x q.1 q.2.1 q.2.2
theorem Fr.below {w x x' : World} {L : List (Nat × Option Addr × Option T)} (h : Fr w L x) (hb : Below x.heap.size x x') : Fr w L x' := ⟨h.b.trans (hb.mono h.b.size), fun q hq => (h.c q hq).below hb⟩
theorem Fr.get {w x : World} {L : List (Nat × Option Addr × Option T)} (h : Fr w L x) (i : Nat) {q : Nat × Option Addr × Option T} (hq : L[i]? = some q) : Cel x q.1 q.2.1 q.2.2 := h.c q (List.mem_of_getElem? hq)
theorem holds_txt (o : Option T) (v : Value) (w : World) (a : At w v o) (k : Ok o) {s : ByteArray} (hs : txt o = s) (hz : s.size ≤ 6900) :
    Calls Try.prog 12 #[.agg #[v], .string s] w fun e w' => e = .returned (.bool true) ∧ Below w.heap.size w w' := by
  subst hs
  exact holds_any o v w a k (by rw [← txt_size]; exact hz)
/-- a rope variable laid and filled -/
theorem Cel.new {x : World} {p : Option Addr} {o : Option T} (a : At x (.pointer p) o) : Cel (x.alloc (.cells #[.pointer p] 26)) x.heap.size p o := ⟨World.alloc_heap_new x _, a.alloc _⟩
def rpG (s : ByteArray) (A D : Int) : Prop := 0 ≤ A ∧ 0 ≤ D ∧ A ≤ s.size ∧ D ≤ s.size - A
instance (s : ByteArray) (A D : Int) : Decidable (rpG s A D) := by unfold rpG; infer_instance
def rpP (s : ByteArray) (A D : Int) (ins : ByteArray) : ByteArray := if rpG s A D then (s.extract 0 A.toNat ++ ins) ++ s.extract (A.toNat + D.toNat) s.size else ⟨#[]⟩
def rpC (s : ByteArray) (A D : Int) : Int := if rpG s A D then 0 else 2
theorem rpP_size (s : ByteArray) (A D : Int) (ins : ByteArray) : (rpP s A D ins).size ≤ s.size + ins.size := by
  unfold rpP
  split
  · rename_i h
    obtain ⟨h1, h2, h3, h4⟩ := h
    rw [ByteArray.size_append, ByteArray.size_append, ByteArray.size_extract, ByteArray.size_extract]; omega
  · exact Nat.zero_le _
theorem replace_all (o : Option T) (v : Value) (w : World) (a : At w v o) (k : Ok o) (hs : siz o ≤ 30000) (A D : Int) (ins : ByteArray) (hi : ins.size ≤ 30000) :
    Calls Try.prog 15 #[.agg #[v], .agg #[.int .i64 A, .int .i64 D, .string ins]] w fun e w' => ∃ v' o', e = .returned (.tuple #[.agg #[v'], .int .i64 (rpC (txt o) A D)]) ∧ At w' v' o' ∧ txt o' = rpP (txt o) A D ins ∧ Ok o' ∧ Below w.heap.size w w' := by
  unfold rpC rpP
  by_cases h : rpG (txt o) A D
  · rw [if_pos h, if_pos h]
    obtain ⟨h1, h2, h3, h4⟩ := h
    rw [txt_size] at h3 h4
    obtain ⟨A, rfl⟩ : ∃ q : Nat, A = q := ⟨A.toNat, by omega⟩
    obtain ⟨D, rfl⟩ : ∃ q : Nat, D = q := ⟨D.toNat, by omega⟩
    rw [txt_size]
    exact replace_good o v w a k hs A D ins hi (by omega)
  · rw [if_neg h, if_neg h]
    unfold rpG at h
    rw [txt_size] at h
    refine (replace_bad o v w a (by omega) A D ins h).mono ?_
    rintro e w' ⟨rfl, hb⟩
    exact ⟨_, none, rfl, rfl, rfl, trivial, hb⟩
theorem refReplace_all (s : ByteArray) (hs : s.size ≤ 30000) (A D : Int) (ins : ByteArray) (hi : ins.size ≤ 30000) (w : World) :
    Calls Try.prog 16 #[.string s, .agg #[.int .i64 A, .int .i64 D, .string ins]] w fun e w' => e = .returned (.tuple #[.string (rpP s A D ins), .int .i64 (rpC s A D)]) ∧ Below w.heap.size w w' := by
  unfold rpC rpP
  by_cases h : rpG s A D
  · rw [if_pos h, if_pos h]
    obtain ⟨h1, h2, h3, h4⟩ := h
    obtain ⟨A, rfl⟩ : ∃ q : Nat, A = q := ⟨A.toNat, by omega⟩
    obtain ⟨D, rfl⟩ : ∃ q : Nat, D = q := ⟨D.toNat, by omega⟩
    exact refReplace_good s (by omega) A D ins (by omega) (by omega) w
  · rw [if_neg h, if_neg h]
    exact refReplace_bad s (by omega) A D ins h w
/-- the edit's variable in memory, from the door on -/
structure Px (w : World) (g : Nat) (A D : Int) (ins : ByteArray) (x : World) : Prop where
  b : Below w.heap.size w x
  c : x.heap[g]? = some (.cells #[.int .i64 A, .int .i64 D, .string ins] 32 (0, 0))
theorem Px.below {w x x' : World} {g : Nat} {A D : Int} {ins : ByteArray} (h : Px w g A D ins x) (hb : Below x.heap.size x x') : Px w g A D ins x' := ⟨h.b.trans (hb.mono h.b.size), (hb.block g (lt_of_some h.c)).trans h.c⟩
theorem Px.cells {w x : World} {g : Nat} {A D : Int} {ins : ByteArray} (h : Px w g A D ins x) : x.cell? ⟨g, 0, none⟩ = some (.int .i64 A) ∧ x.cell? ⟨g, 1, none⟩ = some (.int .i64 D) ∧ x.cell? ⟨g, 2, none⟩ = some (.string ins) :=
  ⟨(blk_cell h.c 0).trans rfl, (blk_cell h.c 1).trans rfl, (blk_cell h.c 2).trans rfl⟩
theorem Px.set {w x : World} {g : Nat} {A D : Int} {ins : ByteArray} (h : Px w g A D ins x) {b : Nat} {cs : Array Value} (hb : x.heap[b]? = some (.cells cs 26 (0, 0))) (hw : w.heap.size ≤ b) (u : Value) : Px w g A D ins (x.setCell ⟨b, 0, none⟩ u) :=
  ⟨h.b.setCell (p := ⟨b, 0, none⟩) hw u, blk_far h.c (p := ⟨b, 0, none⟩) (fun e => by have e : g = b := e; subst e; have := h.c; rw [this] at hb; injection hb with hb; injection hb with _ h2 _; cases h2) u⟩
theorem Px.door (w : World) (A D : Int) (ins : ByteArray) : Px w w.heap.size A D ins (w.alloc (.cells #[.int .i64 A, .int .i64 D, .string ins] 32)) := ⟨bal _ _, World.alloc_heap_new w _⟩
theorem Cel.put {x : World} {b : Nat} {p0 p : Option Addr} {o0 o : Option T} (h : Cel x b p0 o0) (a : At x (.pointer p) o) : Cel (x.setCell ⟨b, 0, none⟩ (.pointer p)) b p o := ⟨blk_put (cs := #[.pointer p0]) h.blk 0 _ rfl, a.set h.blk (by decide) 0 _⟩
end Go.Proofs.Ytmoceagbmgoijaa.Rop
