/- Decoding a log as a relation: what the printed Decode and the reference's Decode answer, and what they answer behind encodings. -/
import Derived.Test.YtfiefplalpjlpaaMath
import Derived.Test.YtfiefplalpjlpaaPAx10
import Derived.Test.YtfiefplalpjlpaaPAx12
import Derived.Test.YtfiefplalpjlpaaPAx14
import Derived.Test.YtfiefplalpjlpaaPAx18
import Derived.Test.YtfiefplalpjlpaaPAx20
import Derived.Test.YtfiefplalpjlpaaPAx21
set_option linter.unusedVariables false
namespace Go.Proofs.Ytfiefplalpjlpaa.Math
open Go.RowKit Go.Proofs.Ytfiefplalpjlpaa.PA Go.Proofs.YtfiefplalpjlpaaW.PrintWords

def parse (s : ByteArray) : Option ByteArray :=
  if s.size < 8 then none
  else if num s > (s.size : Int) - 8 then none
  else if s.extract 4 8 = ck (s.extract 8 (8 + (num s).toNat)) then some (s.extract 8 (8 + (num s).toNat)) else none
theorem parse_some {s r : ByteArray} (h : parse s = some r) : 8 ≤ s.size ∧ num s ≤ (s.size : Int) - 8 ∧ r = s.extract 8 (8 + (num s).toNat) ∧ s.extract 4 8 = ck r ∧ (r.size : Int) = num s ∧ 8 + r.size ≤ s.size := by
  unfold parse at h
  have hn := num_range s
  by_cases h1 : s.size < 8
  · rw [if_pos h1] at h; cases h
  rw [if_neg h1] at h
  by_cases h2 : num s > (s.size : Int) - 8
  · rw [if_pos h2] at h; cases h
  rw [if_neg h2] at h
  by_cases h3 : s.extract 4 8 = ck (s.extract 8 (8 + (num s).toNat))
  · rw [if_pos h3] at h
    obtain rfl := Option.some.inj h
    have hs : (s.extract 8 (8 + (num s).toNat)).size = (num s).toNat := by rw [ByteArray.size_extract]; omega
    exact ⟨by omega, by omega, rfl, h3, by omega, by omega⟩
  · rw [if_neg h3] at h; cases h

/-- what stands one after the other at the begin of a log, and where it ends -/
inductive Dec : ByteArray → List ByteArray → Nat → Prop
  | stop {s : ByteArray} (h : parse s = none) : Dec s [] 0
  | more {s r : ByteArray} {l : List ByteArray} {m : Nat} (h : parse s = some r) (t : Dec (s.extract (8 + r.size) s.size) l m) : Dec s (r :: l) (8 + r.size + m)

theorem extract2 (s : ByteArray) (i j : Nat) : (s.extract i s.size).extract j (s.extract i s.size).size = s.extract (i + j) s.size := by
  rw [ByteArray.extract_extract, ByteArray.size_extract]
  congr 1
  omega
theorem extract3 (s : ByteArray) (i j k : Nat) (h : i + k ≤ s.size) : (s.extract i s.size).extract j k = s.extract (i + j) (i + k) := by
  rw [ByteArray.extract_extract]
  congr 1
  omega
theorem bt_extract (s : ByteArray) (i : Nat) (j : Int) (h0 : 0 ≤ j) (h : (i : Int) + j < s.size) : bt (s.extract i s.size) j = bt s (i + j) := by
  unfold bt
  rw [dif_pos (by rw [ByteArray.size_extract]; omega), dif_pos (by omega)]
  congr 2
  rw [ByteArray.getElem_extract]
  congr 1
  omega

theorem dec_all (n : Nat) : ∀ s : ByteArray, s.size ≤ n → ∃ l m, Dec s l m ∧ m ≤ s.size ∧ 8 * l.length ≤ m := by
  induction n with
  | zero =>
    intro s hs
    refine ⟨[], 0, .stop ?_, by omega, by simp⟩
    unfold parse; rw [if_pos (by omega)]
  | succ n ih =>
    intro s hs
    cases hp : parse s with
    | none => exact ⟨[], 0, .stop hp, by omega, by simp⟩
    | some r =>
      obtain ⟨h8, _, _, _, _, hz⟩ := parse_some hp
      have he : (s.extract (8 + r.size) s.size).size = s.size - (8 + r.size) := by rw [ByteArray.size_extract]; omega
      obtain ⟨l, m, hd, hm, hl⟩ := ih (s.extract (8 + r.size) s.size) (by omega)
      exact ⟨r :: l, 8 + r.size + m, .more hp hd, by omega, by rw [List.length_cons]; omega⟩
theorem dec_le {s : ByteArray} {l : List ByteArray} {m : Nat} (h : Dec s l m) : m ≤ s.size ∧ 8 * l.length ≤ m := by
  induction h with
  | stop => simp
  | @more s r l m hp _ ih =>
    obtain ⟨h8, _, _, _, _, hz⟩ := parse_some hp
    have he : (s.extract (8 + r.size) s.size).size = s.size - (8 + r.size) := by rw [ByteArray.size_extract]; omega
    rw [List.length_cons]; omega

/-! the printed Decode -/
theorem dec_step (x : ByteArray) (hx : x.size ≤ 140737488355328) (k : Nat) (acc : List ByteArray) (at_ : Nat) (ha : at_ ≤ x.size) :
    wal_Decode.l0 (k + 1) x acc at_ = match parse (x.extract at_ x.size) with
      | none => some (acc, (at_ : Int))
      | some r => if acc.length < 8796093022208 then wal_Decode.l0 k x (acc ++ [r]) ((at_ + (8 + r.size) : Nat) : Int) else none := by
  have hz : (x.extract at_ x.size).size = x.size - at_ := by rw [ByteArray.size_extract]; omega
  have hn := num_range (x.extract at_ x.size)
  simp only [wal_Decode.l0, Int.toNat_natCast]
  rw [if_pos (by omega), if_pos (by omega)]
  unfold parse
  by_cases h8 : (x.extract at_ x.size).size < 8
  · rw [if_pos (by omega), if_pos h8]
  rw [if_neg (by omega), if_neg h8, number_f _ (by omega)]
  simp only [Option.bind_some]
  rw [wrap64_small _ (by omega) (by omega), wrap_u64 _ (by omega) (by omega)]
  by_cases h2 : num (x.extract at_ x.size) > ((x.extract at_ x.size).size : Int) - 8
  · rw [if_pos h2, if_pos h2]
  rw [if_neg h2, if_neg h2, wrap64_small (num _) (by omega) (by omega), wrap64_small (8 + num _) (by omega) (by omega)]
  rw [if_pos (by omega), if_pos (by omega), if_pos (by omega), if_pos (by omega), show (8 + num (x.extract at_ x.size)).toNat = 8 + (num (x.extract at_ x.size)).toNat by omega]
  have hs : ((x.extract at_ x.size).extract 8 (8 + (num (x.extract at_ x.size)).toNat)).size = (num (x.extract at_ x.size)).toNat := by rw [ByteArray.size_extract]; omega
  rw [checksum_f _ (by omega)]
  simp only [Option.bind_some]
  by_cases h3 : (x.extract at_ x.size).extract 4 8 = ck ((x.extract at_ x.size).extract 8 (8 + (num (x.extract at_ x.size)).toNat))
  · rw [if_pos (congrArg ByteArray.toList h3), if_pos h3]
    simp only []
    rw [hs, wrap64_small _ (by omega) (by omega), show (at_ : Int) + (8 + num (x.extract at_ x.size)) = ((at_ + (8 + (num (x.extract at_ x.size)).toNat) : Nat) : Int) by omega]
  · rw [if_neg (fun h => h3 (ext_toList h)), if_neg h3]

theorem dec_f {s : ByteArray} {l : List ByteArray} {m : Nat} (h : Dec s l m) : ∀ (x : ByteArray) (at_ : Nat) (acc : List ByteArray) (k : Nat), x.size ≤ 140737488355328 → s = x.extract at_ x.size → at_ ≤ x.size →
    acc.length + l.length < 8796093022208 → l.length < k → wal_Decode.l0 k x acc at_ = some (acc ++ l, ((at_ + m : Nat) : Int)) := by
  induction h with
  | @stop s hp =>
    intro x at_ acc k hx he ha hl hk
    subst he
    obtain ⟨k, rfl⟩ : ∃ j, k = j + 1 := ⟨k - 1, by omega⟩
    rw [dec_step x hx k acc at_ ha, hp]
    simp
  | @more s r l m hp _ ih =>
    intro x at_ acc k hx he ha hl hk
    subst he
    obtain ⟨k, rfl⟩ : ∃ j, k = j + 1 := ⟨k - 1, by omega⟩
    rw [List.length_cons] at hl hk
    obtain ⟨h8, _, _, _, _, hz⟩ := parse_some hp
    have hz2 : (x.extract at_ x.size).size = x.size - at_ := by rw [ByteArray.size_extract]; omega
    rw [dec_step x hx k acc at_ ha, hp]
    simp only []
    rw [if_pos (by omega), ih x (at_ + (8 + r.size)) (acc ++ [r]) k hx (extract2 x at_ _) (by omega) (by simp; omega) (by omega)]
    simp [Nat.add_assoc]
theorem decode_f {s : ByteArray} {l : List ByteArray} {m : Nat} (h : Dec s l m) (hs : s.size ≤ 140737488355328) (k : Nat) (hl : l.length < 8796093022208) (hk : l.length < k) : wal_Decode.f k s = some (l, (m : Int)) := by
  unfold wal_Decode.f
  have := dec_f h s 0 [] k hs (by rw [ByteArray.extract_zero_size]) (by omega) (by simpa using hl) hk
  simpa using this
theorem dec_fun {s : ByteArray} {l l' : List ByteArray} {m m' : Nat} (h : Dec s l m) (h' : Dec s l' m') : l = l' ∧ m = m' := by
  induction h generalizing l' m' with
  | stop hp =>
    cases h' with
    | stop => exact ⟨rfl, rfl⟩
    | more hp' => rw [hp] at hp'; cases hp'
  | more hp _ ih =>
    cases h' with
    | stop hp' => rw [hp] at hp'; cases hp'
    | more hp' t' =>
      rw [hp] at hp'
      obtain rfl := Option.some.inj hp'
      obtain ⟨rfl, rfl⟩ := ih t'
      exact ⟨rfl, rfl⟩

/-! as lists -/
theorem L_append (a b : ByteArray) : (a ++ b).data.toList = a.data.toList ++ b.data.toList := by simp [ByteArray.data_append]
theorem L_extract (s : ByteArray) (i j : Nat) : (s.extract i j).data.toList = (s.data.toList.drop i).take (j - i) := by
  rw [ByteArray.data_extract, Array.toList_extract]
theorem L_strOfNums (xs : List Int) : (strOfNums xs).data.toList = xs.map fun n => UInt8.ofNat n.toNat := by simp [strOfNums]
theorem bt_list (s : ByteArray) (i : Nat) : bt s i = ((s.data.toList[i]?.map fun b => (b.toNat : Int)).getD 0) := by
  unfold bt
  by_cases h : i < s.size
  · have h' : i < s.data.toList.length := by rw [size_data]; exact h
    rw [dif_pos (by simpa using h), List.getElem?_eq_getElem h']; rfl
  · have h' : s.data.toList.length ≤ i := by rw [size_data]; omega
    rw [dif_neg (by simpa using h), List.getElem?_eq_none h']; rfl

theorem num_parts (n : Int) (h0 : 0 ≤ n) (h1 : n < 4294967296) (t : ByteArray) : num (len4 n ++ t) = n := by
  have e : ∀ i : Nat, i < 4 → bt (len4 n ++ t) i = bt (len4 n) i := by
    intro i hi
    rw [bt_list, bt_list, L_append, List.getElem?_append_left (by rw [size_data, len4_size]; exact hi)]
  have b : ∀ i : Nat, bt (len4 n) i = ([n % 256, n / 256 % 256, n / 65536 % 256, n / 16777216 % 256] : List Int).getD i 0 := by
    intro i
    rw [← rd_bytesOf, len4_bytes]; unfold rd; rw [Int.toNat_natCast]
  unfold num
  have e0 := e 0 (by omega); have e1 := e 1 (by omega); have e2 := e 2 (by omega); have e3 := e 3 (by omega)
  rw [b] at e0 e1 e2 e3
  simp at e0 e1 e2 e3
  rw [e0, e1, e2, e3]; omega
theorem parse_parts (C R T : ByteArray) (hC : C.size = 4) (hR : R.size < 4294967296) : parse (len4 R.size ++ C ++ R ++ T) = if C = ck R then some R else none := by
  have hz : (len4 R.size ++ C ++ R ++ T).size = 8 + R.size + T.size := by simp only [ByteArray.size_append, len4_size, hC]
  have hn : num (len4 R.size ++ C ++ R ++ T) = R.size := by
    rw [ByteArray.append_assoc, ByteArray.append_assoc]
    exact num_parts _ (by omega) (by omega) _
  have hl := size_data (len4 R.size); rw [len4_size] at hl
  have hc := size_data C; rw [hC] at hc
  have hr := size_data R
  have e1 : (len4 R.size ++ C ++ R ++ T).extract 4 8 = C := by
    apply bytes_ext
    rw [L_extract, L_append, L_append, L_append, List.append_assoc, List.append_assoc, List.drop_left' hl, List.take_left' hc]
  have e2 : (len4 R.size ++ C ++ R ++ T).extract 8 (8 + R.size) = R := by
    apply bytes_ext
    rw [L_extract, L_append, L_append, L_append, List.append_assoc, List.drop_left' (by rw [List.length_append, hl, hc]), Nat.add_sub_cancel_left, List.take_left' hr]
  unfold parse
  rw [if_neg (by omega), if_neg (by omega), hn, Int.toNat_natCast, e1, e2]
theorem parse_enc (r T : ByteArray) (hr : r.size < 4294967296) : parse (enc r ++ T) = some r := by
  unfold enc
  rw [show ((r.size : Int) % 4294967296) = r.size by omega, parse_parts (ck r) r T (ck_size r) hr, if_pos rfl]
theorem tail_enc (r T : ByteArray) : (enc r ++ T).extract (8 + r.size) (enc r ++ T).size = T := by
  apply bytes_ext
  have := size_data (enc r); rw [enc_size] at this
  rw [L_extract, L_append, List.drop_left' this, List.take_of_length_le]
  rw [size_data, ByteArray.size_append, enc_size]; omega
theorem dec_enc {r T : ByteArray} {l : List ByteArray} {m : Nat} (hr : r.size < 4294967296) (h : Dec T l m) : Dec (enc r ++ T) (r :: l) (8 + r.size + m) :=
  .more (parse_enc r T hr) (by rw [tail_enc]; exact h)
def encs : List ByteArray → ByteArray
  | [] => ⟨#[]⟩
  | r :: l => enc r ++ encs l
theorem empty_append (a : ByteArray) : (⟨#[]⟩ : ByteArray) ++ a = a := bytes_ext (by rw [L_append]; rfl)
theorem append_empty (a : ByteArray) : a ++ (⟨#[]⟩ : ByteArray) = a := bytes_ext (by rw [L_append]; simp)
def total : List ByteArray → Nat
  | [] => 0
  | r :: l => r.size + total l
theorem encs_size (l : List ByteArray) : (encs l).size = 8 * l.length + total l := by
  induction l with
  | nil => rfl
  | cons r l ih => simp only [encs, total, ByteArray.size_append, enc_size, ih, List.length_cons]; omega
theorem encs_append (a b : List ByteArray) : encs (a ++ b) = encs a ++ encs b := by
  induction a with
  | nil => rw [List.nil_append]; exact (empty_append _).symm
  | cons r a ih => rw [List.cons_append]; simp only [encs]; rw [ih, ByteArray.append_assoc]
theorem total_append (a b : List ByteArray) : total (a ++ b) = total a + total b := by
  induction a with
  | nil => simp [total]
  | cons r a ih => rw [List.cons_append]; simp only [total]; omega
theorem total_mem {l : List ByteArray} {r : ByteArray} (h : r ∈ l) : r.size ≤ total l := by
  induction l with
  | nil => cases h
  | cons x l ih =>
    simp only [total]
    rcases List.mem_cons.1 h with rfl | h
    · omega
    · have := ih h; omega
theorem dec_encs {T : ByteArray} {l' : List ByteArray} {m : Nat} (h : Dec T l' m) : ∀ l : List ByteArray, (∀ r ∈ l, r.size < 4294967296) → Dec (encs l ++ T) (l ++ l') ((encs l).size + m) := by
  intro l
  induction l with
  | nil => intro _; rw [List.nil_append]; simp only [encs]; rw [empty_append, show (⟨#[]⟩ : ByteArray).size = 0 from rfl, Nat.zero_add]; exact h
  | cons r l ih =>
    intro hl
    have h1 := ih (fun x hx => hl x (List.mem_cons_of_mem _ hx))
    have h2 := dec_enc (hl r (List.mem_cons_self ..)) h1
    rw [List.cons_append]; simp only [encs]
    rw [ByteArray.append_assoc, ByteArray.size_append, enc_size, Nat.add_assoc (8 + r.size)]
    exact h2
theorem dec_nil : Dec (⟨#[]⟩ : ByteArray) [] 0 := .stop (by unfold parse; rw [if_pos (by decide)])
theorem dec_round (l : List ByteArray) (h : ∀ r ∈ l, r.size < 4294967296) : Dec (encs l) l (encs l).size := by
  have := dec_encs dec_nil l h
  rw [append_empty, List.append_nil, Nat.add_zero] at this
  exact this
theorem encode_go (l : List ByteArray) : ∀ acc : ByteArray, acc.size + (encs l).size ≤ 140737488355328 → wal_Encode.go l acc = some (acc ++ encs l) := by
  induction l with
  | nil => intro acc _; simp only [wal_Encode.go, encs]; rw [append_empty]
  | cons r l ih =>
    intro acc h
    simp only [encs, ByteArray.size_append, enc_size] at h
    simp only [wal_Encode.go, encs]
    rw [append_f _ _ (by rw [show (⟨#[]⟩ : ByteArray).size = 0 from rfl]; omega), empty_append]; simp only [Option.bind_some]
    rw [if_pos (by rw [enc_size]; omega), ih (acc ++ enc r) (by rw [ByteArray.size_append, enc_size]; omega), ByteArray.append_assoc]
theorem encode_f (l : List ByteArray) (h : (encs l).size ≤ 140737488355328) : wal_Encode.f l = some (encs l) := by
  unfold wal_Encode.f
  rw [encode_go l _ (by rw [show (⟨#[]⟩ : ByteArray).size = 0 from rfl]; omega), empty_append]

/-- what was decoded, encoded again -/
theorem four (s : ByteArray) (h : 4 ≤ s.size) : s.extract 0 4 = len4 (num s) := by
  apply bytesOf_inj
  have h0 := bt_range s 0; have h1 := bt_range s 1; have h2 := bt_range s 2; have h3 := bt_range s 3
  have hl : (bytesOf (s.extract 0 4)).length = 4 := by rw [bytesOf_length, ByteArray.size_extract]; omega
  have e : ∀ i : Nat, i < 4 → (bytesOf (s.extract 0 4))[i]? = some (bt s i) := by
    intro i hi
    rw [List.getElem?_eq_getElem (by omega)]
    have h1 := rd_bytesOf (s.extract 0 4) i
    unfold rd at h1
    rw [Int.toNat_natCast, List.getD_eq_getElem?_getD, List.getElem?_eq_getElem (by omega), Option.getD_some] at h1
    rw [h1, bt_list, bt_list, L_extract, List.drop_zero, List.getElem?_take_of_lt hi]
  rw [len4_bytes]
  match hb : bytesOf (s.extract 0 4), hl with
  | [a, b, c, d], _ =>
    rw [hb] at e
    have e0 := e 0 (by omega); have e1 := e 1 (by omega); have e2 := e 2 (by omega); have e3 := e 3 (by omega)
    simp at e0 e1 e2 e3
    unfold num
    rw [e0, e1, e2, e3]
    congr 1
    · omega
    congr 1
    · omega
    congr 1
    · omega
    congr 1
    omega
theorem extract_split (s : ByteArray) (i j k : Nat) (h1 : i ≤ j) (h2 : j ≤ k) : s.extract i k = s.extract i j ++ s.extract j k := by
  apply bytes_ext
  rw [L_append, L_extract, L_extract, L_extract]
  rw [show k - i = (j - i) + (k - j) by omega, List.take_add, List.drop_drop, show i + (j - i) = j by omega]
theorem dec_prefix {s : ByteArray} {l : List ByteArray} {m : Nat} (h : Dec s l m) : encs l = s.extract 0 m := by
  induction h with
  | stop hp =>
    apply bytes_ext
    rw [L_extract]; simp [encs]
  | @more s r l m hp hd ih =>
    obtain ⟨h8, hn, hr, hc, hz, hs⟩ := parse_some hp
    have hn0 := num_range s
    simp only [encs]
    rw [ih, extract_split s 0 4 _ (by omega) (by omega), extract_split s 4 8 _ (by omega) (by omega), extract_split s 8 (8 + (num s).toNat) _ (by omega) (by omega), ← hr, hc, four s (by omega)]
    unfold enc
    rw [show ((r.size : Int) % 4294967296) = num s by omega, show 8 + (num s).toNat = 8 + r.size by omega]
    have hm := (dec_le hd).1
    rw [ByteArray.size_extract] at hm
    have e : (s.extract (8 + r.size) s.size).extract 0 m = s.extract (8 + r.size) (8 + r.size + m) := by
      rw [ByteArray.extract_extract]; congr 1; omega
    rw [e]
    simp only [ByteArray.append_assoc]
end Go.Proofs.Ytfiefplalpjlpaa.Math
