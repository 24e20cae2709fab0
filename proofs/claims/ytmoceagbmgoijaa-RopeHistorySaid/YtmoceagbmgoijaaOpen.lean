/- What is read as data is of a kind of the printed words: general: for whole numbers, bools, strings, slices, structs; each with the bounds that the row's weights give. -/
import Derived.Test.YtmoceagbmgoijaaWMore
import Derived.SizedLaws
import Derived.ChangeSlices
import Derived.OpenShut
import Derived.WideShapes
set_option linter.unusedVariables false
set_option linter.unusedSimpArgs false
namespace Go.Proofs.Ytmoceagbmgoijaa.Open
open Go.RowKit Go.ChangeShapes Go.WideShapes Go.Proofs.YtmoceagbmgoijaaW.PrintWords Go.Proofs.YtmoceagbmgoijaaW.PrintLast

/-- Whatever is read as data of type t, and is no heavier than the reach, is of the kind d, and F holds of it; by a reader of at most n steps. -/
def OpensN (n : Nat) (P : Program) (w : World) (t : TypeId) {α : Type} (d : Kd α) (F : α → Prop) : Prop :=
  ∀ (H : Type) (enc : TypeId × Value → H) (base : Nat) (spare : Nat → Bool) (held : Bool) (fuel : Nat) (cs : List Value) (x : DataW H × List MemPlace), fuel ≤ n →
    DataW.trod enc P w base spare held fuel t cs = some x → (∀ m ∈ x.1.weights P t, m ≤ reachBytes) → ∃ a, d.K w a cs ∧ F a
def Opens (P : Program) (w : World) (t : TypeId) {α : Type} (d : Kd α) (F : α → Prop) : Prop := ∀ n, OpensN n P w t d F

section
variable {P : Program} {w : World} {t e : TypeId} {n : Nat}

theorem of_int {k : IntKind} (ht : P.underlying t = some (.int k)) : OpensN n P w t (Kd.int k) (fun x => (Lit.int k x).wf = true) := by
  intro H enc base spare held fuel cs x _ h _
  obtain ⟨n, rfl, _, hw⟩ := DataW.trod_int ht h
  exact ⟨n, rfl, hw⟩
theorem of_bool (ht : P.underlying t = some .bool) : OpensN n P w t Kd.bool (fun _ => True) := by
  intro H enc base spare held fuel cs x _ h _
  obtain ⟨b, rfl, _⟩ := DataW.trod_bool ht h
  exact ⟨b, rfl, trivial⟩
theorem of_string (ht : P.underlying t = some .string) : OpensN n P w t Kd.string (fun s => s.size ≤ 140737488351232) := by
  intro H enc base spare held fuel cs x _ h hw
  obtain ⟨s, rfl, rfl, _⟩ := DataW.trod_string ht h
  refine ⟨s, rfl, ?_⟩
  have := hw s.data.toList.length (by simp [DataW.weights])
  rw [Array.length_toList] at this
  exact this

theorem cells_get {base m : Nat} {a : Addr} {cs : List Value} (h : w.cells? base a m = some cs) : cs.length = m ∧ ∀ i u, cs[i]? = some u → w.cell? (a.add i) = some u := by
  obtain ⟨_, hl, hc⟩ := World.cells?_some h
  exact ⟨hl, fun i u hu => by
    have hi : i < m := by rw [← hl]; exact (List.getElem?_eq_some_iff.1 hu).1
    rw [hc i hi, hu]⟩

theorem add_add (a : Addr) (i j : Nat) : (a.add i).add j = a.add (i + j) := by
  unfold Addr.add
  split <;> split <;> simp_all <;> omega

theorem weights_elem {H : Type} {elems spare : List (DataW H)} {y : DataW H} (hu : P.underlying t = some (.slice e)) (hy : y ∈ elems) : ∀ m ∈ y.weights P e, m ∈ (DataW.slice elems spare).weights P t := by
  intro m hm
  simp only [DataW.weights, hu]
  refine List.mem_cons_of_mem _ (List.mem_append_left _ ?_)
  clear hu
  induction elems with
  | nil => cases hy
  | cons z r ih =>
    simp only [DataW.weightsAll]
    rcases List.mem_cons.1 hy with rfl | hy
    · exact List.mem_append_left _ hm
    · exact List.mem_append_right _ (ih hy)

theorem of_slice {α : Type} {d : Kd α} {F : α → Prop} {B : Nat} (ht : P.underlying t = some (.slice e)) (hc : P.cellsOf e = d.sz) (hB : P.bytesOf e = B) (hd : ∀ m, m < n → OpensN m P w e d F) :
    OpensN n P w t (Kd.slice e d) (fun xs => xs.length * B ≤ 140737488351232 ∧ xs.length ≤ maxLen ∧ ∀ x ∈ xs, F x) := by
  intro H enc base spare held fuel cs x hfn h hw
  rcases DataW.trod_slice ht h with ⟨rfl, rfl⟩ | ⟨a, len, cap, elems, rest, m, hfm, rfl, rfl, hb, hl, hm, hlen, hel, hsp, hns⟩
  · exact ⟨[], ⟨none, 0, rfl, Nat.le_refl _, rfl, by simp, fun h => absurd h (by simp)⟩, by simp, by simp, by simp⟩
  · have each : ∀ i, i < len → ∃ (p : DataW H × List MemPlace) (c : α × List Value), elems[i]? = some p ∧ d.K w c.1 c.2 ∧ F c.1 ∧ ∀ j u, c.2[j]? = some u → w.cell? (a.add (i * d.sz + j)) = some u := by
      intro i hi
      have h1 := hel i hi
      obtain ⟨y, hy⟩ : ∃ y, elems[i]? = some y := ⟨elems[i]'(by omega), List.getElem?_eq_getElem (by omega)⟩
      rw [hy, Option.bind_eq_some_iff] at h1
      obtain ⟨cs', hcs, hy'⟩ := h1
      have hmem : y.1 ∈ elems.map (·.1) := List.mem_map.2 ⟨y, List.mem_of_getElem? hy, rfl⟩
      obtain ⟨x, hx, hF⟩ := hd m (by omega) H enc base spare held m cs' y (Nat.le_refl _) hy' (fun k hk => hw k (weights_elem ht hmem k hk))
      obtain ⟨hl', hc'⟩ := cells_get hcs
      refine ⟨y, (x, cs'), hy, hx, hF, fun j u hu => ?_⟩
      rw [← hc, ← add_add]
      exact hc' j u hu
    obtain ⟨xs, hxl, hxs⟩ : ∃ xs : List α, xs.length = len ∧ ∀ i x, xs[i]? = some x → ∃ c, d.K w x c ∧ F x ∧ ∀ j u, c[j]? = some u → w.cell? (a.add (i * d.sz + j)) = some u := by
      clear hel hsp hns hw h hlen hl
      induction len with
      | zero => exact ⟨[], rfl, fun i x h => by simp at h⟩
      | succ l ih =>
        obtain ⟨xs, hxl, hxs⟩ := ih (fun i hi => each i (by omega))
        obtain ⟨p, c, _, hk, hF, hcell⟩ := each l (by omega)
        refine ⟨xs ++ [c.1], by simp [hxl], fun i x hx => ?_⟩
        by_cases hi : i < xs.length
        · rw [List.getElem?_append_left hi] at hx
          exact hxs i x hx
        · rw [List.getElem?_append_right (by omega)] at hx
          obtain ⟨h0, h1⟩ := List.getElem?_eq_some_iff.1 hx
          have hi' : i - xs.length = 0 := by simp at h0; omega
          have : x = c.1 := by rw [← h1]; simp
          subst this
          exact ⟨c.2, hk, hF, by rw [show i = l by omega]; exact hcell⟩
    refine ⟨xs, ⟨some a, cap, by rw [hxl], by omega, rfl, by unfold maxLen at hm; omega, fun _ => ⟨a, rfl, fun j p hj => ?_⟩⟩, ?_, by omega, fun x hx => ?_⟩
    · obtain ⟨c, hk, _, hcell⟩ := hxs j p hj
      exact ⟨c, d.K_len hk, hk, hcell⟩
    · have h1 := hw ((elems.map (·.1)).length + (rest.map (·.1)).length |> (· * P.bytesOf e)) (by simp [DataW.weights, ht])
      rw [hB, List.length_map, hlen] at h1
      rw [hxl]
      have h2 : len * B ≤ (len + (rest.map (·.1)).length) * B := Nat.mul_le_mul_right _ (by omega)
      exact Nat.le_trans h2 h1
    · obtain ⟨i, hi⟩ := List.getElem?_of_mem hx
      obtain ⟨c, _, hF, _⟩ := hxs i x hi
      exact hF

/-- fields in line from cell 'off' on -/
def FieldsN (n : Nat) (P : Program) (w : World) (fs : List Field) (off : Nat) {α : Type} (d : Kd α) (F : α → Prop) : Prop :=
  ∀ (H : Type) (enc : TypeId × Value → H) (base : Nat) (spare : Nat → Bool) (held : Bool) (fuel : Nat) (cs : List Value) (xs : List (DataW H × List MemPlace)), fuel ≤ n →
    cs.length = off + d.sz → xs.length = fs.length → (∀ (i : Nat) (f : Field), fs[i]? = some f → DataW.trod enc P w base spare held fuel f.type ((cs.drop f.offset).take (P.cellsOf f.type)) = xs[i]?) →
    (∀ m ∈ DataW.weightsEach P (fs.map (·.type)) (xs.map (·.1)), m ≤ reachBytes) → ∃ a, d.K w a (cs.drop off) ∧ F a

theorem fields_one {α : Type} {d : Kd α} {F : α → Prop} {f : Field} {off : Nat} (ho : f.offset = off) (hc : P.cellsOf f.type = d.sz) (hd : OpensN n P w f.type d F) : FieldsN n P w [f] off d F := by
  intro H enc base spare held fuel cs xs hfn hl hxl hf hw
  obtain ⟨x, rfl⟩ : ∃ x, xs = [x] := by
    match xs, hxl with
    | [x], _ => exact ⟨x, rfl⟩
  have h := hf 0 f rfl
  rw [ho, hc, List.take_of_length_le (by rw [List.length_drop]; omega)] at h
  exact hd H enc base spare held fuel _ x hfn (by simpa using h) (fun m hm => hw m (by simp [DataW.weightsEach]; exact hm))
theorem fields_cons {α β : Type} {d : Kd α} {F : α → Prop} {d' : Kd β} {F' : β → Prop} {f : Field} {fs : List Field} {off : Nat} (ho : f.offset = off) (hc : P.cellsOf f.type = d.sz) (hd : OpensN n P w f.type d F) (hr : FieldsN n P w fs (off + d.sz) d' F') :
    FieldsN n P w (f :: fs) off (Kd.pair d d') (fun x => F x.1 ∧ F' x.2) := by
  intro H enc base spare held fuel cs xs hfn hl hxl hf hw
  have hl' : cs.length = off + (d.sz + d'.sz) := hl
  obtain ⟨x, xs, rfl⟩ : ∃ x ys, xs = x :: ys := by
    match xs, hxl with
    | x :: ys, _ => exact ⟨x, ys, rfl⟩
  have h := hf 0 f rfl
  rw [ho, hc] at h
  obtain ⟨a, ha, hF⟩ := hd H enc base spare held fuel _ x hfn (by simpa using h) (fun m hm => hw m (by simp [DataW.weightsEach]; exact .inl hm))
  obtain ⟨b, hb, hG⟩ := hr H enc base spare held fuel cs xs hfn (by omega) (by simpa using hxl) (fun i g hg => by simpa using hf (i + 1) g (by simpa using hg)) (fun m hm => hw m (by simp [DataW.weightsEach]; exact .inr (by simpa using hm)))
  refine ⟨(a, b), ⟨(cs.drop off).take d.sz, cs.drop (off + d.sz), ?_, ha, hb⟩, hF, hG⟩
  rw [← List.drop_drop, List.take_append_drop]
theorem of_fields {α β : Type} {d : Kd α} {F : α → Prop} {fs : Array Field} {g : β → α} (gi : α → β) (hg : ∀ x, g (gi x) = x) (ht : P.underlying t = some (.struct fs)) (hc : P.cellsOf t = d.sz) (hf : ∀ m, m < n → FieldsN m P w fs.toList 0 d F) :
    OpensN n P w t (Kd.iso d g) (fun x => F (g x)) := by
  intro H enc base spare held fuel cs x hfn h hw
  obtain ⟨xs, m, hm, rfl, hl, hxl, he⟩ := DataW.trod_struct ht h
  obtain ⟨a, ha, hF⟩ := hf m (by omega) H enc base spare held m cs xs (Nat.le_refl _) (by omega) (by simpa using hxl) (fun i f hi => he i f (by simpa using hi)) (fun k hk => hw k (by simp only [DataW.weights, ht]; exact hk))
  refine ⟨gi a, ?_, ?_⟩
  · show d.K w (g (gi a)) cs
    rw [hg]; exact ha
  · show F (g (gi a))
    rw [hg]; exact hF
end

/-- An argument opened: its cells, and what the row's weights say of it. -/
theorem arg {P : Program} {W : World} {t : TypeId} {α : Type} {d : Kd α} {F : α → Prop} (ho : Opens P W t d F) {H : Type} {enc : TypeId × Value → H} {ts : List TypeId} {ds : List (DataW H)} {j : Nat} {v : Value} {x : DataW H} {p : List MemPlace} {base : Nat} {spare : Nat → Bool} {held : Bool}
    (hsz : (DataW.weightsEach P ts ds).all (· ≤ reachBytes) = true) (ht : ts[j]? = some t) (hd : ds[j]? = some x) (h : DataW.Trod enc P W base spare held t v x p) : ∃ a, d.K W a v.cells.toList ∧ F a := by
  obtain ⟨fuel, hf⟩ := h
  refine ho fuel H enc base spare held fuel _ _ (Nat.le_refl _) hf (fun m hm => ?_)
  have := DataW.weights_mem_each ht hd m hm
  simpa using List.all_eq_true.1 hsz m this
theorem slice_of {α : Type} {e : TypeId} {d : Kd α} {W : World} {xs : List α} {A : Option Addr} {l c : Nat} (h : (Kd.slice e d).K W xs (Value.slice A l c).cells.toList) : l = xs.length ∧ xs.length ≤ c ∧ d.C W A xs.length xs := by
  obtain ⟨A', c', hcs, hl, hC⟩ := h
  simp [Value.cells] at hcs
  obtain ⟨rfl, rfl, rfl⟩ := hcs
  exact ⟨rfl, hl, hC⟩
end Go.Proofs.Ytmoceagbmgoijaa.Open
