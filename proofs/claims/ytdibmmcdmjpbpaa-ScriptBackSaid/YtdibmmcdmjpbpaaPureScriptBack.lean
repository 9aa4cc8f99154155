/- The pure law of ScriptBack: for any entries of bytes, any bytes and any place of breaking off the statement's function, as the print tells it, answers true. No condition but that the numbers are of their kinds. -/
import Derived.Test.YtdibmmcdmjpbpaaPScriptBackx3
import Derived.Test.YtdibmmcdmjpbpaaPlain
import Derived.OpenShut
namespace Go.Proofs.Ytdibmmcdmjpbpaa.PureScriptBack
open Go.RowKit Go.Proofs.Ytdibmmcdmjpbpaa Go.Proofs.Ytdibmmcdmjpbpaa.PScriptBack Go.Proofs.YtdibmmcdmjpbpaaW.PrintWords Go.Proofs.YtdibmmcdmjpbpaaW.PrintLast
set_option linter.unusedVariables false
set_option linter.unusedSimpArgs false
theorem wk : demesnelaw11_wakes.f = some true := by decide +kernel
theorem w_of (x : Int) (h : 0 ≤ x) (h2 : x < 9223372036854775808) : wrap64 x = x := by unfold wrap64; omega
def of31 (e : S31) : Hand.I5 := (e.f0, e.f1, e.f2, e.f3, e.f4)
theorem of_to (l : List Hand.I5) : (l.map toS28).map ofS28 = l := by
  rw [List.map_map]
  exact List.map_id l
/-- The numbers of an entry are bytes. -/
def ok5 (e : Hand.I5) : Prop := Plain.u8 e.1 ∧ Plain.u8 e.2.1 ∧ Plain.u8 e.2.2.1 ∧ Plain.u8 e.2.2.2.1 ∧ Plain.u8 e.2.2.2.2
theorem rd31_get (l : List S31) (i : Nat) (h : i < l.length) : rd_T31 l (i : Int) = l[i] := by
  unfold rd_T31
  simp [h]
theorem rd28_get (l : List S28) (i : Nat) (h : i < l.length) : rd_T28 l (i : Int) = l[i] := by
  unfold rd_T28
  simp [h]
theorem bytes_ok (es : List Hand.I5) (h : ∀ e ∈ es, ok5 e) : ∀ n ∈ es.flatMap Hand.bytes5, Plain.u8 n := by
  intro n hn
  rw [List.mem_flatMap] at hn
  obtain ⟨e, he, hm⟩ := hn
  have hk := h e he
  have h2 := List.mem_of_mem_take hm
  simp only [List.mem_cons, List.not_mem_nil, or_false] at h2
  obtain ⟨k0, k1, k2, k3, k4⟩ := hk
  rcases h2 with rfl | rfl | rfl | rfl | rfl <;> assumption
theorem flat_le (es : List Hand.I5) : (es.flatMap Hand.bytes5).length ≤ 5 * es.length := by
  induction es with
  | nil => exact Nat.le_refl _
  | cons e r ih =>
    have := Plain.argsp_range e.2.1
    have := Plain.bytes5_length e
    rw [List.flatMap_cons, List.length_append, List.length_cons]
    omega
theorem encF (es : List Hand.I5) (h : es.length < 1000000) : script_Encode.f (es.map toS28) = some (if es.all Hand.may5 = true then (strOfNums (es.flatMap Hand.bytes5), 0) else (ByteArray.empty, 3)) := by
  unfold script_Encode.f Hand.encR
  rw [if_pos (by rw [List.length_map]; exact h), of_to, Plain.encL_eq]
  cases es.all Hand.may5 <;> rfl
theorem decF (s : ByteArray) : script_Decode.f s = some (if 4000 < s.size then (([] : List S28), (8 : Int)) else match Plain.dec (bytesOf s) with | some l => (l.map toS28, (0 : Int)) | none => (([] : List S28), (3 : Int))) := by
  unfold script_Decode.f Hand.decR
  by_cases c : 4000 < s.size
  · rw [if_pos c, if_pos c]; rfl
  · rw [if_neg c, if_neg c, Plain.decL_dec _ _ (by rw [bytesOf_length]; exact Nat.le_refl _)]
    cases Plain.dec (bytesOf s) <;> rfl
theorem j7_all (k : Nat) (s : ByteArray) : demesnelaw11_ScriptBack.j7 (k + 1) s = some true := by
  simp only [demesnelaw11_ScriptBack.j7]
  rw [decF, Option.bind_some]
  by_cases c : 4000 < s.size
  · rw [if_pos c, if_neg (show ¬ (8 : Int) = 0 from by decide), if_pos (by rfl), wk]
    rfl
  rw [if_neg c]
  cases hd : Plain.dec (bytesOf s) with
  | none =>
    show (if (3 : Int) = 0 then _ else (if ((([] : List S28)).length : Int) = 0 then _ else _)) = _
    rw [if_neg (by decide), if_pos (by rfl), wk]
    rfl
  | some m =>
    have hl := Plain.dec_length _ _ _ (Nat.le_refl _) hd
    rw [bytesOf_length] at hl
    obtain ⟨e1, e2⟩ := Plain.enc_dec _ _ _ (Nat.le_refl _) hd
    show (if (0 : Int) = 0 then ((script_Encode.f (m.map toS28)).bind _) else _) = some true
    rw [if_pos rfl, encF m (by omega), e1, if_pos rfl, e2, Plain.strOfNums_bytesOf, Option.bind_some, if_pos rfl, if_pos rfl, wk]
    rfl
/-- What is read of broken bytes: the first entries. -/
theorem l2_loop (s : ByteArray) (es : List Hand.I5) (hl : es.length ≤ 300) (j : Nat) (hj : j ≤ es.length) : ∀ (r i k : Nat), i + r = j → 3 * r + 3 < k →
    demesnelaw11_ScriptBack.l2 k s (es.map toS28) ((es.take j).map toS28) (i : Int) = some true
  | 0, i, k, hi, hk => by
    obtain ⟨k, rfl⟩ : ∃ q, k = q + 3 := ⟨k - 3, by omega⟩
    simp only [demesnelaw11_ScriptBack.l2]
    rw [if_neg (by rw [List.length_map, List.length_take]; omega)]
    simp only [demesnelaw11_ScriptBack.j6]
    rw [if_neg (by decide), j7_all]
  | r + 1, i, k, hi, hk => by
    obtain ⟨k, rfl⟩ : ∃ q, k = q + 2 := ⟨k - 2, by omega⟩
    simp only [demesnelaw11_ScriptBack.l2]
    have hw : wrap64 ((i : Int) + 1) = ((i + 1 : Nat) : Int) := by rw [w_of _ (by omega) (by omega)]; omega
    have h1 : (i : Int) < (((es.take j).map toS28).length : Int) := by rw [List.length_map, List.length_take]; omega
    have h2 : (i : Int) < ((es.map toS28).length : Int) := by rw [List.length_map]; omega
    rw [if_pos h1]
    simp only [demesnelaw11_ScriptBack.j6]
    rw [decide_eq_true h2, if_pos rfl, if_pos (by omega), if_pos h1, if_pos h2, rd28_get _ i (by omega), rd28_get _ i (by omega), hw]
    rw [if_neg (by simp)]
    exact l2_loop s es hl j hj r (i + 1) k (by omega) (by omega)
theorem j4_false (k : Nat) (s : ByteArray) (es : List Hand.I5) (hl : es.length ≤ 300) (j : Nat) (hj : j ≤ es.length) (hk : 3 * j + 3 < k) : demesnelaw11_ScriptBack.j4 (k + 1) s (es.map toS28) ((es.take j).map toS28) false = some true := by
  simp only [demesnelaw11_ScriptBack.j4]
  rw [if_neg (by decide)]
  exact l2_loop s es hl j hj j 0 k (by omega) hk
/-- The end of the first comparison: the bytes are broken off. -/
theorem l1_end (s b : ByteArray) (c : Int) (es : List Hand.I5) (hl : es.length ≤ 300) (hm : es.all Hand.may5 = true) (hc : 0 ≤ c ∧ c ≤ 65535) (hb : bytesOf b = es.flatMap Hand.bytes5) (k : Nat) (hk : 3 * es.length + 5 < k) :
    demesnelaw11_ScriptBack.l1 (k + 1) s c (es.map toS28) b (es.map toS28) (es.length : Int) = some true := by
  have hbs : b.size ≤ 1500 := by
    have := flat_le es
    have := bytesOf_length b
    rw [hb] at this
    omega
  have w1 : wrap64 c = c := w_of _ hc.1 (by omega)
  have w2 : wrap64 ((b.size : Int) + 1) = ((b.size + 1 : Nat) : Int) := by rw [w_of _ (by omega) (by omega)]; omega
  obtain ⟨cn, rfl⟩ := Int.eq_ofNat_of_zero_le hc.1
  have ht : Int.tmod (cn : Int) ((b.size + 1 : Nat) : Int) = ((cn % (b.size + 1) : Nat) : Int) := rfl
  have hn := Nat.mod_lt cn (show 0 < b.size + 1 from by omega)
  simp only [demesnelaw11_ScriptBack.l1]
  rw [if_neg (by rw [List.length_map]; omega), w1, w2, ht]
  generalize cn % (b.size + 1) = n at hn
  rw [if_neg (by omega), if_pos (by omega), if_pos (by omega), Int.toNat_natCast, decF, Option.bind_some, if_neg (show ¬ 4000 < (b.extract 0 n).size from by rw [ByteArray.size_extract]; omega), Plain.bytesOf_extract, hb]
  obtain ⟨k, rfl⟩ : ∃ q, k = q + 1 := ⟨k - 1, by omega⟩
  cases hd : Plain.dec ((es.flatMap Hand.bytes5).take n) with
  | none =>
    show (if (3 : Int) = 0 then _ else demesnelaw11_ScriptBack.j4 (k + 1) s (es.map toS28) ((es.take 0).map toS28) false) = _
    rw [if_neg (by decide)]
    exact j4_false k s es hl 0 (by omega) (by omega)
  | some m =>
    obtain ⟨d1, d2, d3⟩ := Plain.dec_cut es n m hm hd
    have hlen : (es.flatMap Hand.bytes5).length = b.size := by rw [← hb, bytesOf_length]
    show (if (0 : Int) = 0 then (if (n : Int) < (b.size : Int) then demesnelaw11_ScriptBack.j4 (k + 1) s (es.map toS28) (m.map toS28) (decide (((m.map toS28).length : Int) ≥ ((es.map toS28).length : Int))) else demesnelaw11_ScriptBack.j4 (k + 1) s (es.map toS28) (m.map toS28) false) else _) = some true
    have hj := j4_false k s es hl m.length d2 (by omega)
    rw [← d1] at hj
    rw [if_pos rfl]
    by_cases cb : (n : Int) < (b.size : Int)
    · rw [if_pos cb, decide_eq_false (by rw [List.length_map, List.length_map]; have := d3 (by omega); omega)]
      exact hj
    · rw [if_neg cb]
      exact hj
theorem l1_loop (s b : ByteArray) (c : Int) (es : List Hand.I5) (hl : es.length ≤ 300) (hm : es.all Hand.may5 = true) (hc : 0 ≤ c ∧ c ≤ 65535) (hb : bytesOf b = es.flatMap Hand.bytes5) : ∀ (r i k : Nat), i + r = es.length → r + 3 * es.length + 6 < k →
    demesnelaw11_ScriptBack.l1 k s c (es.map toS28) b (es.map toS28) (i : Int) = some true
  | 0, i, k, hi, hk => by
    obtain ⟨k, rfl⟩ : ∃ q, k = q + 1 := ⟨k - 1, by omega⟩
    obtain rfl : i = es.length := by omega
    exact l1_end s b c es hl hm hc hb k (by omega)
  | r + 1, i, k, hi, hk => by
    obtain ⟨k, rfl⟩ : ∃ q, k = q + 1 := ⟨k - 1, by omega⟩
    have hw : wrap64 ((i : Int) + 1) = ((i + 1 : Nat) : Int) := by rw [w_of _ (by omega) (by omega)]; omega
    have hil : i < es.length := by omega
    have h2 : (i : Int) < ((es.map toS28).length : Int) := by rw [List.length_map]; omega
    have hmi : Hand.may5 es[i] = true := List.all_eq_true.mp hm _ (List.getElem_mem hil)
    simp only [demesnelaw11_ScriptBack.l1]
    rw [if_pos h2, if_pos (by omega), if_pos h2, rd28_get _ i (by omega), List.getElem_map, if_neg (by simp)]
    unfold script_Entry_May.f
    rw [Option.bind_some, if_pos (show Hand.mayp (toS28 es[i]).f0 (toS28 es[i]).f1.f0 (toS28 es[i]).f1.f1 (toS28 es[i]).f1.f2 (toS28 es[i]).f1.f3 = true from hmi), hw]
    exact l1_loop s b c es hl hm hc hb r (i + 1) k (by omega) (by omega)
theorem l0_loop (s : ByteArray) (c : Int) (hc : 0 ≤ c ∧ c ≤ 65535) (l : List S31) (hl : l.length ≤ 300) (hok : ∀ e ∈ l, ok5 (of31 e)) : ∀ (r i k : Nat), i + r = l.length → r + 4 * l.length + 9 < k →
    demesnelaw11_ScriptBack.l0 k l s c (((l.take i).map of31).map toS28) (i : Int) = some true
  | 0, i, k, hi, hk => by
    obtain ⟨k, rfl⟩ : ∃ q, k = q + 2 := ⟨k - 2, by omega⟩
    have ht : l.take i = l := List.take_of_length_le (by omega)
    rw [ht]
    simp only [demesnelaw11_ScriptBack.l0]
    obtain ⟨es, hes⟩ : ∃ es, es = l.map of31 := ⟨_, rfl⟩
    have hel : es.length = l.length := by rw [hes, List.length_map]
    have heok : ∀ e ∈ es, ok5 e := by
      intro e he
      rw [hes, List.mem_map] at he
      obtain ⟨x, hx, rfl⟩ := he
      exact hok x hx
    rw [if_neg (by omega), ← hes, encF es (by omega), Option.bind_some]
    by_cases hm : es.all Hand.may5 = true
    · have hb : bytesOf (strOfNums (es.flatMap Hand.bytes5)) = es.flatMap Hand.bytes5 := Plain.bytesOf_strOfNums _ (bytes_ok es heok)
      have hbs : (strOfNums (es.flatMap Hand.bytes5)).size ≤ 1500 := by
        rw [Plain.strOfNums_size]
        have := flat_le es
        omega
      rw [if_pos hm]
      generalize strOfNums (es.flatMap Hand.bytes5) = b at hb hbs
      show (if (0 : Int) = 0 then ((script_Decode.f b).bind _) else _) = _
      rw [if_pos rfl, decF, Option.bind_some, if_neg (show ¬ 4000 < b.size from by omega), hb, Plain.dec_enc es hm]
      show (if (0 : Int) = 0 then demesnelaw11_ScriptBack.j2 (k + 1) s c (es.map toS28) b (es.map toS28) (((es.map toS28).length : Int) != ((es.map toS28).length : Int)) else _) = some true
      rw [if_pos rfl, bne_self_eq_false]
      simp only [demesnelaw11_ScriptBack.j2]
      rw [if_neg (by decide)]
      exact l1_loop s b c es (by omega) hm hc hb es.length 0 k (by omega) (by omega)
    · rw [if_neg hm, if_neg (by decide)]
      exact j7_all k s
  | r + 1, i, k, hi, hk => by
    obtain ⟨k, rfl⟩ : ∃ q, k = q + 1 := ⟨k - 1, by omega⟩
    have hil : i < l.length := by omega
    have hw : wrap64 ((i : Int) + 1) = ((i + 1 : Nat) : Int) := by rw [w_of _ (by omega) (by omega)]; omega
    have htk : l.take (i + 1) = l.take i ++ [l[i]] := by rw [List.take_succ_eq_append_getElem hil]
    simp only [demesnelaw11_ScriptBack.l0]
    rw [if_pos (by omega), if_pos (by omega), rd31_get l i hil]
    unfold demesnelaw11_Of.f
    rw [Option.bind_some, if_pos (by rw [List.length_map, List.length_map, List.length_take]; omega), hw]
    have h := l0_loop s c hc l hl hok r (i + 1) k (by omega) (by omega)
    rw [htk, List.map_append, List.map_append] at h
    exact h
def Pure : Prop := ∀ (l : List S31) (s : ByteArray) (c : Int), (∀ e ∈ l, ok5 (of31 e)) → (Lit.int .u16 c).wf = true → ∃ k, demesnelaw11_ScriptBack.f k l s c = some true
theorem pure_holds : Pure := by
  intro l s c hok hwf
  have hc : 0 ≤ c ∧ c ≤ 65535 := by
    have := bounds_u16 hwf
    omega
  refine ⟨2000, ?_⟩
  have j0t : demesnelaw11_ScriptBack.j0 2000 l s c true = some true := by
    simp only [demesnelaw11_ScriptBack.j0]
    rw [wk]
    rfl
  unfold demesnelaw11_ScriptBack.f
  by_cases h : (l.length : Int) > 300
  · rw [if_pos h, j0t]
  rw [if_neg h]
  by_cases h2 : (s.size : Int) > 5000
  · rw [decide_eq_true h2, j0t]
  · rw [decide_eq_false h2]
    simp only [demesnelaw11_ScriptBack.j0]
    rw [if_neg (by decide)]
    exact l0_loop s c hc l (by omega) hok l.length 0 1999 (by omega) (by omega)
end Go.Proofs.Ytdibmmcdmjpbpaa.PureScriptBack
