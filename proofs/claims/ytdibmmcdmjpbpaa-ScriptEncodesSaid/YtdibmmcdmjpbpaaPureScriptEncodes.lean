/- The pure law of ScriptEncodes: for any entries of bytes and any byte the statement's function, as the print tells it, answers true. No condition but that the entries' numbers are bytes. -/
import Derived.Test.YtdibmmcdmjpbpaaPScriptEncodesx4
import Derived.Test.YtdibmmcdmjpbpaaPlain
import Derived.OpenShut
namespace Go.Proofs.Ytdibmmcdmjpbpaa.PureScriptEncodes
open Go.RowKit Go.Proofs.Ytdibmmcdmjpbpaa Go.Proofs.Ytdibmmcdmjpbpaa.PScriptEncodes Go.Proofs.YtdibmmcdmjpbpaaW.PrintWords Go.Proofs.YtdibmmcdmjpbpaaW.PrintLast
set_option linter.unusedVariables false
set_option linter.unusedSimpArgs false
theorem wk : demesnelaw11_wakes.f = some true := by decide +kernel
theorem w_of (x : Int) (h : 0 ≤ x) (h2 : x < 9223372036854775808) : wrap64 x = x := by unfold wrap64; omega
theorem refArgs (d : Int) (h0 : 0 ≤ d) (h1 : d ≤ 255) : demesneref11_Args.f d = some (Hand.argsp d) := by
  by_cases h : d ≤ 13
  · rcases (by omega : d = 0 ∨ d = 1 ∨ d = 2 ∨ d = 3 ∨ d = 4 ∨ d = 5 ∨ d = 6 ∨ d = 7 ∨ d = 8 ∨ d = 9 ∨ d = 10 ∨ d = 11 ∨ d = 12 ∨ d = 13) with rfl | rfl | rfl | rfl | rfl | rfl | rfl | rfl | rfl | rfl | rfl | rfl | rfl | rfl <;> decide +kernel
  · unfold demesneref11_Args.f
    rw [Option.bind_some, w_of d (by omega) (by omega), if_neg (by simp only [List.length_cons, List.length_nil]; omega)]
    unfold Hand.argsp
    rw [if_neg (by omega), if_neg (by omega), if_neg (by omega)]
theorem args3 (n x y z : Int) (h0 : 0 ≤ n) : (if n > 0 then (if n > 1 then (if n > 2 then (some true) else (some (z == 0))) else (if y = 0 then (if n > 2 then (some true) else (some (z == 0))) else (some false))) else (if x = 0 then (if n > 1 then (if n > 2 then (some true) else (some (z == 0))) else (if y = 0 then (if n > 2 then (some true) else (some (z == 0))) else (some false))) else (some false))) = some (decide ((0 < n ∨ x = 0) ∧ (1 < n ∨ y = 0) ∧ (2 < n ∨ z = 0))) := by
  have e : ∀ b : Bool, b = decide ((0 < n ∨ x = 0) ∧ (1 < n ∨ y = 0) ∧ (2 < n ∨ z = 0)) → some b = some (decide ((0 < n ∨ x = 0) ∧ (1 < n ∨ y = 0) ∧ (2 < n ∨ z = 0))) := fun b h => by rw [h]
  have hz : (z == 0) = decide (z = 0) := rfl
  repeat' split
  all_goals
    apply e
    first
      | exact (decide_eq_true ⟨by omega, by omega, by omega⟩).symm
      | exact (decide_eq_false (by omega)).symm
      | (rw [hz, decide_eq_decide]; omega)
theorem refMay (a d x y z : Int) (h0 : 0 ≤ d) (h1 : d ≤ 255) : demesneref11_May.f a d x y z = some (Hand.mayp a d x y z) := by
  have hr := Plain.argsp_range d
  unfold demesneref11_May.f Hand.mayp
  rw [refArgs d h0 h1]
  simp only [Option.bind_some]
  rw [args3 _ x y z hr.1]
  by_cases c1 : d > 13
  · rw [if_pos c1, if_pos c1]
  rw [if_neg c1, if_neg c1]
  by_cases c2 : a = 255
  · rw [if_pos c2, if_neg (by omega : ¬ (a ≠ 255 ∧ 64 ≤ a))]
    by_cases c3 : d = 0
    · rw [if_pos c3, if_neg (by simp [c3])]
    · rw [if_neg c3]
      by_cases c4 : d = 13
      · rw [if_pos c4, if_neg (by simp [c2, c4])]
      · rw [if_neg c4, if_pos ⟨c3, by simp [c2, c4]⟩]
  · rw [if_neg c2]
    by_cases c3 : a > 63
    · rw [if_pos c3, if_pos ⟨c2, by omega⟩]
    · rw [if_neg c3, if_neg (by omega : ¬ (a ≠ 255 ∧ 64 ≤ a))]
      by_cases c4 : d = 13
      · rw [if_pos c4, if_pos ⟨by omega, by simp [c2, c4]⟩]
      · rw [if_neg c4, if_neg (by simp [c2, c4])]
def of31 (e : S31) : Hand.I5 := (e.f0, e.f1, e.f2, e.f3, e.f4)
def c28 (e : S31) : S28 := ⟨e.f0, ⟨e.f1, e.f2, e.f3, e.f4⟩⟩
theorem of_c28 (e : S31) : ofS28 (c28 e) = of31 e := rfl
/-- The numbers of an entry are bytes. -/
def ok31 (e : S31) : Prop := Plain.u8 e.f0 ∧ Plain.u8 e.f1 ∧ Plain.u8 e.f2 ∧ Plain.u8 e.f3 ∧ Plain.u8 e.f4
theorem refBytes (a d x y z : Int) (h0 : 0 ≤ d) (h1 : d ≤ 255) : demesneref11_Bytes.f a d x y z = some (strOfNums (Hand.bytes5 (a, d, x, y, z))) := by
  have hr := Plain.argsp_range d
  unfold demesneref11_Bytes.f
  rw [Option.bind_some, refArgs d h0 h1, Option.bind_some, w_of _ (by omega) (by omega), if_pos (by omega), if_pos (by simp only [List.length_cons, List.length_nil]; omega)]
  rfl
theorem rd31_get (l : List S31) (i : Nat) (h : i < l.length) : rd_T31 l (i : Int) = l[i] := by
  unfold rd_T31
  simp [h]
theorem bytes5_le (e : Hand.I5) : (Hand.bytes5 e).length ≤ 5 := by
  have := Plain.argsp_range e.2.1
  rw [Plain.bytes5_length]
  omega
theorem strOfNums_size5 (e : S31) : (strOfNums (Hand.bytes5 (of31 e))).size ≤ 5 := by
  rw [Plain.strOfNums_size]
  exact bytes5_le _
theorem enc_loop (l : List S31) (a1 : Int) (ha : 0 ≤ a1 ∧ a1 ≤ 255) (hl : l.length ≤ 300) (hok : ∀ e ∈ l, ok31 e) : ∀ (r i k : Nat) (b : ByteArray) (q : Bool), i + r = l.length → r < k → q = (l.take i).all (fun e => Hand.may5 (of31 e)) →
    (q = true → b = strOfNums ((l.take i).flatMap fun e => Hand.bytes5 (of31 e)) ∧ b.size ≤ 5 * i) →
    demesnelaw11_ScriptEncodes.l0 k l a1 ((l.take i).map c28) b q (i : Int) = some true
  | 0, i, k, b, q, hi, hk, hq, hb => by
    obtain ⟨k, rfl⟩ : ∃ j, k = j + 1 := ⟨k - 1, by omega⟩
    have ht : l.take i = l := List.take_of_length_le (by omega)
    rw [ht] at hq hb ⊢
    have he : script_Encode.f (l.map c28) = some (Hand.encR (l.map of31)) := by
      unfold script_Encode.f
      rw [if_pos (by rw [List.length_map]; omega), List.map_map]
      rfl
    have hE : Hand.encL (l.map of31) = if q = true then some (l.flatMap fun e => Hand.bytes5 (of31 e)) else none := by
      rw [Plain.encL_eq, List.all_map, List.flatMap_map, hq]
      rfl
    simp only [demesnelaw11_ScriptEncodes.l0]
    rw [if_neg (by omega), he, Option.bind_some]
    unfold script_Args.f
    rw [Option.bind_some, refArgs a1 ha.1 ha.2, Option.bind_some, if_pos rfl]
    unfold Hand.encR
    rw [hE]
    cases q with
    | true =>
      rw [if_pos rfl, if_pos rfl, (hb rfl).1]
      show (if (strOfNums _).toList = (strOfNums _).toList then (if (0:Int) = 0 then _ else _) else _) = _
      rw [if_pos rfl, if_pos rfl, wk]
      rfl
    | false =>
      rw [if_neg (show ¬ (false = true) from by decide), if_neg (show ¬ (false = true) from by decide)]
      show (if ByteArray.empty.toList = [] then (if (3:Int) = 3 then _ else _) else _) = _
      rw [if_pos (by decide +kernel), if_pos rfl, wk]
      rfl
  | r + 1, i, k, b, q, hi, hk, hq, hb => by
    obtain ⟨k, rfl⟩ : ∃ j, k = j + 1 := ⟨k - 1, by omega⟩
    have hil : i < l.length := by omega
    have ho := hok l[i] (List.getElem_mem hil)
    have hw : wrap64 ((i : Int) + 1) = ((i + 1 : Nat) : Int) := by rw [w_of _ (by omega) (by omega)]; omega
    have htk : l.take (i + 1) = l.take i ++ [l[i]] := by rw [List.take_succ_eq_append_getElem hil]
    have hx : (l.take i).map c28 ++ [c28 l[i]] = (l.take (i + 1)).map c28 := by rw [htk, List.map_append]; rfl
    simp only [demesnelaw11_ScriptEncodes.l0]
    rw [if_pos (by omega), if_pos (by omega), rd31_get l i hil]
    generalize he : l[i] = e at *
    unfold demesnelaw11_Of.f script_Entry_May.f
    simp only [Option.bind_some]
    rw [if_pos (by rw [List.length_map, List.length_take]; omega), refMay e.f0 e.f1 e.f2 e.f3 e.f4 ho.2.1.1 ho.2.1.2, refBytes e.f0 e.f1 e.f2 e.f3 e.f4 ho.2.1.1 ho.2.1.2]
    simp only [Option.bind_some]
    rw [if_neg (by simp), hw]
    have hall : (l.take (i + 1)).all (fun e => Hand.may5 (of31 e)) = (q && Hand.mayp e.f0 e.f1 e.f2 e.f3 e.f4) := by
      rw [htk, List.all_append, ← hq]
      simp [Hand.may5, of31]
    change (if q = true then (if Hand.mayp e.f0 e.f1 e.f2 e.f3 e.f4 = true then (if b.size + (strOfNums (Hand.bytes5 (of31 e))).size ≤ 9223372036854775807 then demesnelaw11_ScriptEncodes.l0 k l a1 ((l.take i).map c28 ++ [c28 e]) (b ++ strOfNums (Hand.bytes5 (of31 e))) (Hand.mayp e.f0 e.f1 e.f2 e.f3 e.f4) ((i + 1 : Nat) : Int) else none) else demesnelaw11_ScriptEncodes.l0 k l a1 ((l.take i).map c28 ++ [c28 e]) b (Hand.mayp e.f0 e.f1 e.f2 e.f3 e.f4) ((i + 1 : Nat) : Int)) else demesnelaw11_ScriptEncodes.l0 k l a1 ((l.take i).map c28 ++ [c28 e]) b false ((i + 1 : Nat) : Int)) = some true
    rw [hx]
    cases q with
    | false =>
      rw [if_neg (by decide)]
      exact enc_loop l a1 ha hl hok r (i + 1) k b false (by omega) (by omega) (by rw [hall]; rfl) (fun h => by cases h)
    | true =>
      rw [if_pos rfl]
      by_cases hm : Hand.mayp e.f0 e.f1 e.f2 e.f3 e.f4 = true
      · obtain ⟨b1, b2⟩ := hb rfl
        have hs := strOfNums_size5 e
        rw [if_pos hm, if_pos (by omega), hm]
        refine enc_loop l a1 ha hl hok r (i + 1) k _ true (by omega) (by omega) (by rw [hall, hm]; rfl) (fun _ => ⟨?_, ?_⟩)
        · rw [htk, List.flatMap_append, Plain.strOfNums_append, b1]
          simp
        · rw [ByteArray.size_append]
          omega
      · have hm' : Hand.mayp e.f0 e.f1 e.f2 e.f3 e.f4 = false := by simpa using hm
        rw [if_neg hm, hm']
        exact enc_loop l a1 ha hl hok r (i + 1) k b false (by omega) (by omega) (by rw [hall, hm']; rfl) (fun h => by cases h)
def Pure : Prop := ∀ (l : List S31) (a1 : Int), (∀ e ∈ l, ok31 e) → (Lit.int .u8 a1).wf = true → ∃ k, demesnelaw11_ScriptEncodes.f k l a1 = some true
theorem pure_holds : Pure := by
  intro l a1 hok hwf
  have ha : 0 ≤ a1 ∧ a1 ≤ 255 := by
    have := bounds_u8 hwf
    omega
  refine ⟨400, ?_⟩
  unfold demesnelaw11_ScriptEncodes.f
  by_cases c : (l.length : Int) > 300
  · rw [if_pos c, wk]
    rfl
  · rw [if_neg c]
    exact enc_loop l a1 ha (by omega) hok l.length 0 400 _ true (by omega) (by omega) rfl (fun _ => ⟨rfl, Nat.le_refl _⟩)
end Go.Proofs.Ytdibmmcdmjpbpaa.PureScriptEncodes
