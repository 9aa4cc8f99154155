/- Proved here: laws of lists about the answers of script.Encode and script.Decode (one undoes the other; bytes that are broken off); no condition but those that each theorem writes out. -/
import Derived.Test.YtdibmmcdmjpbpaaHand
namespace Go.Proofs.Ytdibmmcdmjpbpaa.Plain
open Go.RowKit Go.Proofs.Ytdibmmcdmjpbpaa.Hand Go.Proofs.YtdibmmcdmjpbpaaW.PrintWords Go.Proofs.YtdibmmcdmjpbpaaW.PrintLast
set_option linter.unusedVariables false
set_option linter.unusedSimpArgs false
def u8 (n : Int) : Prop := 0 ≤ n ∧ n ≤ 255
theorem argsp_range (d : Int) : 0 ≤ argsp d ∧ argsp d ≤ 3 := by
  rcases argsp_cases d with h | h | h | h <;> rw [h] <;> omega
theorem encL_eq (l : List I5) : encL l = if l.all may5 then some (l.flatMap bytes5) else none := by
  induction l with
  | nil => rfl
  | cons e r ih =>
    rw [encL, ih, List.all_cons, List.flatMap_cons]
    cases may5 e <;> cases r.all may5 <;> simp
theorem decL_nil (k : Nat) : decL k [] = some [] := by cases k <;> simp [decL]
theorem decL_step (k : Nat) (b : List Int) (h0 : b ≠ []) : decL (k + 1) b = if (b.length : Int) < 2 ∨ (b.length : Int) < 2 + argsp (b.getD 1 0) then none
    else if may5 (head5 b) then (decL k (b.drop (2 + argsp (b.getD 1 0)).toNat)).map (head5 b :: ·) else none := by
  rw [decL, if_neg h0]
theorem decL_fuel : ∀ (n : Nat) (b : List Int) (k k' : Nat), b.length ≤ n → b.length ≤ k → b.length ≤ k' → decL k b = decL k' b
  | 0, b, k, k', hn, _, _ => by
    obtain rfl : b = [] := List.length_eq_zero_iff.mp (by omega)
    rw [decL_nil, decL_nil]
  | n + 1, b, k, k', hn, hk, hk' => by
    by_cases h0 : b = []
    · subst h0; rw [decL_nil, decL_nil]
    have hp : 0 < b.length := List.length_pos_iff.mpr h0
    obtain ⟨k, rfl⟩ : ∃ j, k = j + 1 := ⟨k - 1, by omega⟩
    obtain ⟨k', rfl⟩ : ∃ j, k' = j + 1 := ⟨k' - 1, by omega⟩
    rw [decL_step _ _ h0, decL_step _ _ h0]
    have hr := argsp_range (b.getD 1 0)
    have hd : (b.drop (2 + argsp (b.getD 1 0)).toNat).length ≤ b.length - 2 := by rw [List.length_drop]; omega
    rw [decL_fuel n _ k k' (by omega) (by omega) (by omega)]
/-- Decode, without the bound of rounds. -/
def dec (b : List Int) : Option (List I5) := decL b.length b
theorem decL_dec (k : Nat) (b : List Int) (h : b.length ≤ k) : decL k b = dec b := decL_fuel _ b k b.length (Nat.le_refl _) h (Nat.le_refl _)
theorem dec_nil : dec [] = some [] := rfl
theorem dec_step (b : List Int) (h0 : b ≠ []) : dec b = if (b.length : Int) < 2 ∨ (b.length : Int) < 2 + argsp (b.getD 1 0) then none
    else if may5 (head5 b) then (dec (b.drop (2 + argsp (b.getD 1 0)).toNat)).map (head5 b :: ·) else none := by
  have hp : 0 < b.length := List.length_pos_iff.mpr h0
  have hr := argsp_range (b.getD 1 0)
  rw [← decL_dec (b.length - 1 + 1) b (by omega), decL_step _ _ h0, decL_dec _ (b.drop _) (by rw [List.length_drop]; omega)]
/-- An entry that may be has no argument behind its own. -/
theorem may_zeros {a d x y z : Int} (h : mayp a d x y z = true) : (0 < argsp d ∨ x = 0) ∧ (1 < argsp d ∨ y = 0) ∧ (2 < argsp d ∨ z = 0) := by
  unfold mayp at h
  split at h
  · cases h
  split at h
  · cases h
  split at h
  · cases h
  exact of_decide_eq_true h
theorem bytes5_length (e : I5) : (bytes5 e).length = (2 + argsp e.2.1).toNat := by
  have := argsp_range e.2.1
  unfold bytes5
  rw [List.length_take]
  simp only [List.length_cons, List.length_nil]
  omega
theorem bytes5_cons (e : I5) : ∃ t, bytes5 e = e.1 :: e.2.1 :: t := by
  have := argsp_range e.2.1
  obtain ⟨n, hn⟩ : ∃ n, (2 + argsp e.2.1).toNat = n + 2 := ⟨(argsp e.2.1).toNat, by omega⟩
  unfold bytes5
  rw [hn]
  exact ⟨_, rfl⟩
/-- The entry at the head of an entry's bytes and more. -/
theorem head5_bytes (e : I5) (r : List Int) (h : may5 e = true) : head5 (bytes5 e ++ r) = e := by
  have hz := may_zeros h
  have hl := bytes5_length e
  have h1 : (bytes5 e ++ r).getD 1 0 = e.2.1 := by
    obtain ⟨t, ht⟩ := bytes5_cons e
    rw [ht]
    rfl
  unfold head5
  simp only [h1]
  rw [List.take_append_of_le_length (Nat.le_of_eq hl.symm), List.take_of_length_le (Nat.le_of_eq hl)]
  obtain ⟨a, d, x, y, z⟩ := e
  simp only at hz
  unfold bytes5
  simp only
  rcases argsp_cases d with e | e | e | e <;> rw [e] at hz ⊢
  · obtain ⟨rfl, rfl, rfl⟩ : x = 0 ∧ y = 0 ∧ z = 0 := by omega
    rfl
  · obtain ⟨rfl, rfl⟩ : y = 0 ∧ z = 0 := by omega
    rfl
  · obtain rfl : z = 0 := by omega
    rfl
  · rfl
/-- Bytes of entries that may be, and more. -/
theorem dec_bytes (e : I5) (r : List Int) (h : may5 e = true) : dec (bytes5 e ++ r) = (dec r).map (e :: ·) := by
  have hl := bytes5_length e
  have hr := argsp_range e.2.1
  have h1 : (bytes5 e ++ r).getD 1 0 = e.2.1 := by
    obtain ⟨t, ht⟩ := bytes5_cons e
    rw [ht]
    rfl
  have h0 : bytes5 e ++ r ≠ [] := by
    obtain ⟨t, ht⟩ := bytes5_cons e
    rw [ht]
    exact List.cons_ne_nil _ _
  rw [dec_step _ h0, h1, head5_bytes e r h, if_neg (by rw [List.length_append, hl]; omega), if_pos h, ← hl, List.drop_left]
theorem dec_enc : ∀ l : List I5, l.all may5 = true → dec (l.flatMap bytes5) = some l
  | [], _ => rfl
  | e :: r, h => by
    rw [List.all_cons, Bool.and_eq_true] at h
    rw [List.flatMap_cons, dec_bytes e _ h.1, dec_enc r h.2]
    rfl
/-- Bytes that are broken off inside an entry. -/
theorem dec_broken (e : I5) (n : Nat) (h0 : n ≠ 0) (hn : n < (bytes5 e).length) : dec ((bytes5 e).take n) = none := by
  have hl := bytes5_length e
  have hr := argsp_range e.2.1
  have hne : (bytes5 e).take n ≠ [] := by
    rw [← List.length_pos_iff, List.length_take]
    omega
  rw [dec_step _ hne, if_pos]
  rw [List.length_take]
  by_cases h1 : n < 2
  · left; omega
  · right
    have h1 : ((bytes5 e).take n).getD 1 0 = e.2.1 := by
      obtain ⟨t, ht⟩ := bytes5_cons e
      obtain ⟨m, rfl⟩ : ∃ m, n = m + 2 := ⟨n - 2, by omega⟩
      rw [ht]
      rfl
    rw [h1]
    omega
/-- Bytes that are broken off anywhere are no script, or one of the first entries; of fewer, where a byte is gone. -/
theorem dec_cut : ∀ (l : List I5) (n : Nat) (m : List I5), l.all may5 = true → dec ((l.flatMap bytes5).take n) = some m → m = l.take m.length ∧ m.length ≤ l.length ∧ (n < (l.flatMap bytes5).length → m.length < l.length)
  | [], n, m, _, hm => by
    rw [List.flatMap_nil, List.take_nil, dec_nil] at hm
    obtain rfl := Option.some.inj hm
    simp
  | e :: r, n, m, h, hm => by
    rw [List.all_cons, Bool.and_eq_true] at h
    have hl := bytes5_length e
    have hr := argsp_range e.2.1
    rw [List.flatMap_cons] at hm ⊢
    by_cases hn : n < (bytes5 e).length
    · rw [List.take_append_of_le_length (by omega)] at hm
      by_cases h0 : n = 0
      · subst h0
        rw [List.take_zero, dec_nil] at hm
        obtain rfl := Option.some.inj hm
        simp
      · rw [dec_broken e n h0 hn] at hm
        cases hm
    · rw [List.take_append, List.take_of_length_le (by omega), dec_bytes e _ h.1] at hm
      cases hd : dec ((r.flatMap bytes5).take (n - (bytes5 e).length)) with
      | none => rw [hd] at hm; cases hm
      | some q =>
        rw [hd] at hm
        obtain rfl := Option.some.inj hm
        obtain ⟨i1, i2, i3⟩ := dec_cut r _ q h.2 hd
        refine ⟨?_, by simp only [List.length_cons]; omega, fun hlt => ?_⟩
        · rw [List.length_cons, List.take_succ_cons, ← i1]
        · rw [List.length_append] at hlt
          have := i3 (by omega)
          simp only [List.length_cons]
          omega
/-- The bytes at the head are those of the entry there. -/
theorem bytes5_head (b : List Int) (h2 : ¬ ((b.length : Int) < 2 ∨ (b.length : Int) < 2 + argsp (b.getD 1 0))) : bytes5 (head5 b) = b.take (2 + argsp (b.getD 1 0)).toNat := by
  rcases b with _ | ⟨a, _ | ⟨d, r⟩⟩
  · simp at h2
  · simp at h2
  have e1 : (a :: d :: r).getD 1 0 = d := rfl
  rw [e1] at h2 ⊢
  unfold head5 bytes5
  simp only [e1]
  simp only [List.length_cons] at h2
  have hd : (List.take (2 + argsp d).toNat (a :: d :: r)).getD 1 0 = d := by
    have := argsp_range d
    obtain ⟨n, hn⟩ : ∃ n, (2 + argsp d).toNat = n + 2 := ⟨(argsp d).toNat, by omega⟩
    rw [hn]
    rfl
  rw [hd]
  rcases argsp_cases d with e | e | e | e <;> rw [e] at h2 ⊢
  · rfl
  · rcases r with _ | ⟨x, r⟩
    · simp at h2
    rfl
  · rcases r with _ | ⟨x, _ | ⟨y, r⟩⟩
    · simp at h2
    · simp at h2
    rfl
  · rcases r with _ | ⟨x, _ | ⟨y, _ | ⟨z, r⟩⟩⟩
    · simp at h2
    · simp at h2
    · simp at h2
    rfl
/-- Bytes that are a script: the entries' bytes are these. -/
theorem enc_dec : ∀ (n : Nat) (b : List Int) (m : List I5), b.length ≤ n → dec b = some m → m.all may5 = true ∧ m.flatMap bytes5 = b
  | 0, b, m, hn, hm => by
    obtain rfl : b = [] := List.length_eq_zero_iff.mp (by omega)
    rw [dec_nil] at hm
    obtain rfl := Option.some.inj hm
    simp
  | n + 1, b, m, hn, hm => by
    by_cases h0 : b = []
    · subst h0
      rw [dec_nil] at hm
      obtain rfl := Option.some.inj hm
      simp
    have hr := argsp_range (b.getD 1 0)
    rw [dec_step b h0] at hm
    by_cases h2 : (b.length : Int) < 2 ∨ (b.length : Int) < 2 + argsp (b.getD 1 0)
    · rw [if_pos h2] at hm; cases hm
    rw [if_neg h2] at hm
    by_cases h3 : may5 (head5 b) = true
    · rw [if_pos h3] at hm
      cases hd : dec (b.drop (2 + argsp (b.getD 1 0)).toNat) with
      | none => rw [hd] at hm; cases hm
      | some q =>
        rw [hd] at hm
        obtain rfl := Option.some.inj hm
        obtain ⟨i1, i2⟩ := enc_dec n _ q (by rw [List.length_drop]; omega) hd
        refine ⟨by rw [List.all_cons, h3, i1]; rfl, ?_⟩
        rw [List.flatMap_cons, i2, bytes5_head b h2, List.take_append_drop]
    · rw [if_neg h3] at hm; cases hm
/-- No more entries than half the bytes. -/
theorem dec_length : ∀ (n : Nat) (b : List Int) (m : List I5), b.length ≤ n → dec b = some m → 2 * m.length ≤ b.length
  | 0, b, m, hn, hm => by
    obtain rfl : b = [] := List.length_eq_zero_iff.mp (by omega)
    rw [dec_nil] at hm
    obtain rfl := Option.some.inj hm
    simp
  | n + 1, b, m, hn, hm => by
    by_cases h0 : b = []
    · subst h0
      rw [dec_nil] at hm
      obtain rfl := Option.some.inj hm
      simp
    have hr := argsp_range (b.getD 1 0)
    rw [dec_step b h0] at hm
    by_cases h2 : (b.length : Int) < 2 ∨ (b.length : Int) < 2 + argsp (b.getD 1 0)
    · rw [if_pos h2] at hm; cases hm
    rw [if_neg h2] at hm
    by_cases h3 : may5 (head5 b) = true
    · rw [if_pos h3] at hm
      cases hd : dec (b.drop (2 + argsp (b.getD 1 0)).toNat) with
      | none => rw [hd] at hm; cases hm
      | some q =>
        rw [hd] at hm
        obtain rfl := Option.some.inj hm
        have := dec_length n _ q (by rw [List.length_drop]; omega) hd
        rw [List.length_drop] at this
        simp only [List.length_cons]
        omega
    · rw [if_neg h3] at hm; cases hm
/-! ### bytes and numbers -/
theorem bytesOf_strOfNums (l : List Int) (h : ∀ n ∈ l, u8 n) : bytesOf (strOfNums l) = l := by
  unfold bytesOf strOfNums
  rw [List.map_map]
  conv => rhs; rw [← List.map_id l]
  refine List.map_congr_left fun n hn => ?_
  obtain ⟨h1, h2⟩ := h n hn
  show ((UInt8.ofNat n.toNat).toNat : Int) = n
  rw [UInt8.toNat_ofNat']
  omega
theorem strOfNums_bytesOf (s : ByteArray) : strOfNums (bytesOf s) = s := by
  unfold bytesOf strOfNums
  rw [List.map_map]
  have e : ((fun n : Int => UInt8.ofNat n.toNat) ∘ fun b : UInt8 => (b.toNat : Int)) = id := by
    funext b
    show UInt8.ofNat ((b.toNat : Int).toNat) = b
    rw [Int.toNat_natCast, UInt8.ofNat_toNat]
  rw [e, List.map_id]
theorem strOfNums_append (a b : List Int) : strOfNums (a ++ b) = strOfNums a ++ strOfNums b := by
  apply ByteArray.ext
  unfold strOfNums
  rw [ByteArray.data_append, List.map_append]
  simp
theorem strOfNums_size (l : List Int) : (strOfNums l).size = l.length := by
  show (l.map fun n => UInt8.ofNat n.toNat).toArray.size = l.length
  rw [List.size_toArray, List.length_map]
theorem bytesOf_u8 (s : ByteArray) : ∀ n ∈ bytesOf s, u8 n := by
  intro n hn
  unfold bytesOf at hn
  rw [List.mem_map] at hn
  obtain ⟨b, _, rfl⟩ := hn
  have := b.toNat_lt
  unfold u8
  omega
theorem bytesOf_extract (s : ByteArray) (m : Nat) : bytesOf (s.extract 0 m) = (bytesOf s).take m := by
  unfold bytesOf
  rw [ByteArray.data_extract, Array.toList_extract, List.extract_eq_take_drop, List.drop_zero, Nat.sub_zero, List.map_take]
end Go.Proofs.Ytdibmmcdmjpbpaa.Plain
