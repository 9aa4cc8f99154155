/- The pure law of ScriptDecodes: for any bytes the statement's function, as the print tells it, answers true. No condition. -/
import Derived.Test.YtdibmmcdmjpbpaaPScriptDecodesx5
import Derived.Test.YtdibmmcdmjpbpaaPlain
namespace Go.Proofs.Ytdibmmcdmjpbpaa.Pure
open Go.RowKit Go.Proofs.Ytdibmmcdmjpbpaa Go.Proofs.Ytdibmmcdmjpbpaa.PScriptDecodes Go.Proofs.YtdibmmcdmjpbpaaW.PrintWords Go.Proofs.YtdibmmcdmjpbpaaW.PrintLast
set_option linter.unusedVariables false
set_option linter.unusedSimpArgs false
theorem wk : demesnelaw11_wakes.f = some true := by decide +kernel
theorem w_of (x : Int) (h : 0 ≤ x) (h2 : x < 9223372036854775808) : wrap64 x = x := by unfold wrap64; omega
theorem refArgs (d : Int) (h0 : 0 ≤ d) (h1 : d ≤ 255) : demesneref11_Args.f d = some (Hand.argsp d) := by
  by_cases h : d ≤ 13
  · rcases (by omega : d = 0 ∨ d = 1 ∨ d = 2 ∨ d = 3 ∨ d = 4 ∨ d = 5 ∨ d = 6 ∨ d = 7 ∨ d = 8 ∨ d = 9 ∨ d = 10 ∨ d = 11 ∨ d = 12 ∨ d = 13) with rfl | rfl | rfl | rfl | rfl | rfl | rfl | rfl | rfl | rfl | rfl | rfl | rfl | rfl <;> decide +kernel
  · unfold demesneref11_Args.f
    rw [Option.bind_some, w_of d (by omega) (by omega), if_neg (by simp only [List.length_cons, List.length_nil]; omega)]
    unfold Hand.argsp
    rw [if_neg (by omega), if_neg (by omega), if_neg (by omega)]
theorem args3 (n x y z : Int) (h0 : 0 ≤ n) : (if n > 0 then (if n > 1 then (if n > 2 then (some true) else (some (z == 0))) else (if y = 0 then (if n > 2 then (some true) else (some (z == 0))) else (some false))) else (if x = 0 then (if n > 1 then (if n > 2 then (some true) else (some (z == 0))) else (if y = 0 then (if n > 2 then (some true) else (some (z == 0))) else (some false))) else (some false))) = some (decide ((0 < n ∨ x = 0) ∧ (1 < n ∨ y = 0) ∧ (2 < n ∨ z = 0))) := by
  have e : ∀ b : Bool, b = decide ((0 < n ∨ x = 0) ∧ (1 < n ∨ y = 0) ∧ (2 < n ∨ z = 0)) → some b = some (decide ((0 < n ∨ x = 0) ∧ (1 < n ∨ y = 0) ∧ (2 < n ∨ z = 0))) := fun b h => by rw [h]
  have hz : (z == 0) = decide (z = 0) := rfl
  repeat' split
  all_goals
    apply e
    first
      | exact (decide_eq_true ⟨by omega, by omega, by omega⟩).symm
      | exact (decide_eq_false (by omega)).symm
      | (rw [hz, decide_eq_decide]; omega)
theorem refMay (a d x y z : Int) (h0 : 0 ≤ d) (h1 : d ≤ 255) : demesneref11_May.f a d x y z = some (Hand.mayp a d x y z) := by
  have hr := Plain.argsp_range d
  unfold demesneref11_May.f Hand.mayp
  rw [refArgs d h0 h1]
  simp only [Option.bind_some]
  rw [args3 _ x y z hr.1]
  by_cases c1 : d > 13
  · rw [if_pos c1, if_pos c1]
  rw [if_neg c1, if_neg c1]
  by_cases c2 : a = 255
  · rw [if_pos c2, if_neg (by omega : ¬ (a ≠ 255 ∧ 64 ≤ a))]
    by_cases c3 : d = 0
    · rw [if_pos c3, if_neg (by simp [c3])]
    · rw [if_neg c3]
      by_cases c4 : d = 13
      · rw [if_pos c4, if_neg (by simp [c2, c4])]
      · rw [if_neg c4, if_pos ⟨c3, by simp [c2, c4]⟩]
  · rw [if_neg c2]
    by_cases c3 : a > 63
    · rw [if_pos c3, if_pos ⟨c2, by omega⟩]
    · rw [if_neg c3, if_neg (by omega : ¬ (a ≠ 255 ∧ 64 ≤ a))]
      by_cases c4 : d = 13
      · rw [if_pos c4, if_pos ⟨by omega, by simp [c2, c4]⟩]
      · rw [if_neg c4, if_neg (by simp [c2, c4])]
def toS31 (e : Hand.I5) : S31 := ⟨e.1, e.2.1, e.2.2.1, e.2.2.2.1, e.2.2.2.2⟩
theorem bt_get (s : ByteArray) (at_ j : Nat) (h : at_ + j < s.size) : ((bytesOf s).drop at_).getD j 0 = bt s ((at_ + j : Nat) : Int) := by
  rw [← rd_bytesOf]
  unfold rd
  rw [Int.toNat_natCast, List.getD_eq_getElem?_getD, List.getD_eq_getElem?_getD, List.getElem?_drop]
theorem head_at (s : ByteArray) (at_ n : Nat) (hn : (n : Int) = Hand.argsp (bt s ((at_ + 1 : Nat) : Int))) (h : at_ + 2 + n ≤ s.size) :
    Hand.head5 ((bytesOf s).drop at_) = (bt s (at_ : Int), bt s ((at_ + 1 : Nat) : Int), if 0 < n then bt s ((at_ + 2 : Nat) : Int) else 0, if 1 < n then bt s ((at_ + 3 : Nat) : Int) else 0, if 2 < n then bt s ((at_ + 4 : Nat) : Int) else 0) := by
  have e1 := bt_get s at_ 1 (by omega)
  unfold Hand.head5
  simp only [e1]
  rw [← hn, show (2 + (n : Int)).toNat = 2 + n from by omega]
  have g : ∀ j : Nat, (((bytesOf s).drop at_).take (2 + n)).getD j 0 = if j < 2 + n then ((bytesOf s).drop at_).getD j 0 else 0 := by
    intro j
    rw [List.getD_eq_getElem?_getD, List.getElem?_take]
    split
    · rw [List.getD_eq_getElem?_getD]
    · rfl
  rw [g 0, g 1, g 2, g 3, g 4, if_pos (by omega), if_pos (by omega), e1, bt_get s at_ 0 (by omega)]
  have h3 := Plain.argsp_range (bt s ((at_ + 1 : Nat) : Int))
  rcases (by omega : n = 0 ∨ n = 1 ∨ n = 2 ∨ n = 3) with rfl | rfl | rfl | rfl
  · simp only [Nat.reduceAdd, Nat.reduceLT, ↓reduceIte, Nat.lt_irrefl, Nat.add_zero]
  · simp only [Nat.reduceAdd, Nat.reduceLT, ↓reduceIte, Nat.lt_irrefl, Nat.add_zero, bt_get s at_ 2 (by omega)]
  · simp only [Nat.reduceAdd, Nat.reduceLT, ↓reduceIte, Nat.lt_irrefl, Nat.add_zero, bt_get s at_ 2 (by omega), bt_get s at_ 3 (by omega)]
  · simp only [Nat.reduceAdd, Nat.reduceLT, ↓reduceIte, Nat.lt_irrefl, Nat.add_zero, bt_get s at_ 2 (by omega), bt_get s at_ 3 (by omega), bt_get s at_ 4 (by omega)]
/-- What the document's Decode answers. -/
def ans (acc : List S31) : Option (List Hand.I5) → List S31 × Int
  | some l => (acc ++ l.map toS31, 0)
  | none => ([], 3)
theorem j1_eq (k : Nat) (s : ByteArray) (acc : List S31) (at_ n : Nat) (a d x y z : Int) (hs : s.size ≤ 4000) (h : at_ + 2 + n ≤ s.size) (hd : 0 ≤ d ∧ d ≤ 255) (hacc : acc.length ≤ 4000) (hx : n ≤ 3)
    (hy0 : y = 0) (hz0 : z = 0) :
    demesneref11_Decode.j1 (k + 2) s acc (at_ : Int) (n : Int) a d x y z = if Hand.mayp a d x (if 1 < n then bt s ((at_ + 3 : Nat) : Int) else 0) (if 2 < n then bt s ((at_ + 4 : Nat) : Int) else 0) = true
      then demesneref11_Decode.l0 k s (acc ++ [⟨a, d, x, if 1 < n then bt s ((at_ + 3 : Nat) : Int) else 0, if 2 < n then bt s ((at_ + 4 : Nat) : Int) else 0⟩]) ((at_ + 2 + n : Nat) : Int) else some ([], 3) := by
  subst hy0
  subst hz0
  have w2 : wrap64 ((at_ : Int) + 2) = ((at_ + 2 : Nat) : Int) := by rw [w_of _ (by omega) (by omega)]; omega
  have w3 : wrap64 ((at_ : Int) + 3) = ((at_ + 3 : Nat) : Int) := by rw [w_of _ (by omega) (by omega)]; omega
  have w4 : wrap64 ((at_ : Int) + 4) = ((at_ + 4 : Nat) : Int) := by rw [w_of _ (by omega) (by omega)]; omega
  have wn : wrap64 (((at_ + 2 : Nat) : Int) + (n : Int)) = ((at_ + 2 + n : Nat) : Int) := by rw [w_of _ (by omega) (by omega)]; omega
  have fin : ∀ y z : Int, ((demesneref11_May.f a d x y z).bind fun t122 => (if t122 = true then (if acc.length < 28147497671065 then (demesneref11_Decode.l0 k s (acc ++ [(⟨a, d, x, y, z⟩ : S31)]) (wrap64 ((wrap64 ((at_ : Int) + 2)) + (n : Int)))) else (none)) else (some (([] : List (S31)), 3)))) =
      if Hand.mayp a d x y z = true then demesneref11_Decode.l0 k s (acc ++ [⟨a, d, x, y, z⟩]) ((at_ + 2 + n : Nat) : Int) else some ([], 3) := by
    intro y z
    rw [refMay a d x y z hd.1 hd.2, Option.bind_some, if_pos (show acc.length < 28147497671065 from by omega), w2, wn]
  have j2 : ∀ y : Int, demesneref11_Decode.j2 (k + 1) s acc (at_ : Int) (n : Int) a d x y 0 = if Hand.mayp a d x y (if 2 < n then bt s ((at_ + 4 : Nat) : Int) else 0) = true
      then demesneref11_Decode.l0 k s (acc ++ [⟨a, d, x, y, if 2 < n then bt s ((at_ + 4 : Nat) : Int) else 0⟩]) ((at_ + 2 + n : Nat) : Int) else some ([], 3) := by
    intro y
    simp only [demesneref11_Decode.j2]
    by_cases c : 2 < n
    · rw [if_pos (show (n : Int) > 2 from by omega), w4, if_pos (by omega), if_pos (by omega), fin, if_pos c]
    · rw [if_neg (show ¬ (n : Int) > 2 from by omega), fin, if_neg c]
  simp only [demesneref11_Decode.j1]
  by_cases c : 1 < n
  · rw [if_pos (show (n : Int) > 1 from by omega), w3, if_pos (by omega), if_pos (by omega), j2, if_pos c]
  · rw [if_neg (show ¬ (n : Int) > 1 from by omega), j2, if_neg c]
theorem ref_loop (s : ByteArray) (hs : s.size ≤ 4000) : ∀ (r at_ k : Nat) (acc : List S31), at_ + r = s.size → 3 * r < k → acc.length + r ≤ 4000 →
    demesneref11_Decode.l0 k s acc (at_ : Int) = some (ans acc (Plain.dec ((bytesOf s).drop at_))) := by
  intro r
  induction r using Nat.strongRecOn with
  | ind r ih =>
    intro at_ k acc hr hk hacc
    obtain ⟨k, rfl⟩ : ∃ j, k = j + 1 := ⟨k - 1, by omega⟩
    have hl : ((bytesOf s).drop at_).length = r := by rw [List.length_drop, bytesOf_length]; omega
    simp only [demesneref11_Decode.l0]
    by_cases c0 : r = 0
    · rw [if_neg (by omega)]
      have e : (bytesOf s).drop at_ = [] := List.length_eq_zero_iff.mp (by omega)
      rw [e, Plain.dec_nil]
      simp [ans]
    have hne : (bytesOf s).drop at_ ≠ [] := fun e => by rw [e] at hl; exact c0 hl.symm
    have w1 : wrap64 ((at_ : Int) + 1) = ((at_ + 1 : Nat) : Int) := by rw [w_of _ (by omega) (by omega)]; omega
    have w2 : wrap64 ((at_ : Int) + 2) = ((at_ + 2 : Nat) : Int) := by rw [w_of _ (by omega) (by omega)]; omega
    rw [if_pos (by omega), w1, Plain.dec_step _ hne, hl]
    by_cases c1 : r < 2
    · rw [if_pos (by omega), if_pos (by omega)]
      rfl
    rw [if_neg (by omega), if_pos (by omega), if_pos (by omega), if_pos (by omega), bt_get s at_ 1 (by omega)]
    have hb := bt_range s ((at_ + 1 : Nat) : Int)
    have hr3 := Plain.argsp_range (bt s ((at_ + 1 : Nat) : Int))
    obtain ⟨n, hn⟩ : ∃ n : Nat, (n : Int) = Hand.argsp (bt s ((at_ + 1 : Nat) : Int)) := ⟨(Hand.argsp (bt s ((at_ + 1 : Nat) : Int))).toNat, by omega⟩
    rw [refArgs _ hb.1 hb.2, Option.bind_some, w2, ← hn, w_of (((at_ + 2 : Nat) : Int) + (n : Int)) (by omega) (by omega)]
    by_cases c2 : s.size < at_ + 2 + n
    · rw [if_pos (by omega), if_pos (by omega)]
      rfl
    rw [if_neg (by omega)]
    obtain ⟨k, rfl⟩ : ∃ j, k = j + 2 := ⟨k - 2, by omega⟩
    have hh := head_at s at_ n hn (by omega)
    have hx : (if (n : Int) > 0 then (if 0 ≤ ((at_ + 2 : Nat) : Int) then (if ((at_ + 2 : Nat) : Int) < (s.size : Int) then (demesneref11_Decode.j1 (k + 2) s acc (at_ : Int) (n : Int) (bt s (at_ : Int)) (bt s ((at_ + 1 : Nat) : Int)) (bt s ((at_ + 2 : Nat) : Int)) 0 0) else (none)) else (none)) else (demesneref11_Decode.j1 (k + 2) s acc (at_ : Int) (n : Int) (bt s (at_ : Int)) (bt s ((at_ + 1 : Nat) : Int)) 0 0 0)) =
        demesneref11_Decode.j1 (k + 2) s acc (at_ : Int) (n : Int) (bt s (at_ : Int)) (bt s ((at_ + 1 : Nat) : Int)) (if 0 < n then bt s ((at_ + 2 : Nat) : Int) else 0) 0 0 := by
      by_cases c : 0 < n
      · rw [if_pos (by omega), if_pos (by omega), if_pos (by omega), if_pos c]
      · rw [if_neg (by omega), if_neg c]
    rw [hx, j1_eq k s acc at_ n _ _ _ 0 0 hs (by omega) hb (by omega) (by omega) rfl rfl, if_neg (show ¬ ((r : Int) < 2 ∨ (r : Int) < 2 + (n : Int)) from by omega), hh]
    generalize (if 0 < n then bt s ((at_ + 2 : Nat) : Int) else 0) = e3
    generalize (if 1 < n then bt s ((at_ + 3 : Nat) : Int) else 0) = e4
    generalize (if 2 < n then bt s ((at_ + 4 : Nat) : Int) else 0) = e5
    by_cases hm : Hand.mayp (bt s (at_ : Int)) (bt s ((at_ + 1 : Nat) : Int)) e3 e4 e5 = true
    · rw [if_pos hm, if_pos (show Hand.may5 (bt s (at_ : Int), bt s ((at_ + 1 : Nat) : Int), e3, e4, e5) = true from hm), ih (r - (2 + n)) (by omega) (at_ + 2 + n) k _ (by omega) (by omega) (by rw [List.length_append]; simp only [List.length_cons, List.length_nil]; omega), List.drop_drop, show at_ + (2 + (n : Int)).toNat = at_ + 2 + n from by omega]
      cases Plain.dec ((bytesOf s).drop (at_ + 2 + n)) with
      | none => rfl
      | some l => simp [ans, toS31]
    · rw [if_neg hm, if_neg (show ¬ Hand.may5 (bt s (at_ : Int), bt s ((at_ + 1 : Nat) : Int), e3, e4, e5) = true from hm)]
      rfl
theorem ref_all (s : ByteArray) (k : Nat) (hk : 3 * s.size < k) (hs : s.size ≤ 4000) : demesneref11_Decode.f k s = some (ans [] (Plain.dec (bytesOf s))) := by
  unfold demesneref11_Decode.f
  rw [if_neg (by omega)]
  have h := ref_loop s hs s.size 0 k [] (by omega) hk (by simpa using hs)
  rw [List.drop_zero] at h
  exact h
theorem decR_eq (s : ByteArray) (h : s.size ≤ 4000) : Hand.decR s = match Plain.dec (bytesOf s) with | some l => (l, 0) | none => ([], 3) := by
  unfold Hand.decR
  rw [if_neg (by omega), Plain.decL_dec _ _ (by rw [bytesOf_length]; exact Nat.le_refl _)]
  cases Plain.dec (bytesOf s) <;> rfl
theorem rd28 (l : List Hand.I5) (i : Nat) (h : i < l.length) : rd_T28 (l.map toS28) (i : Int) = toS28 l[i] := by
  unfold rd_T28
  simp [h]
theorem rd31 (l : List Hand.I5) (i : Nat) (h : i < l.length) : rd_T31 (l.map toS31) (i : Int) = toS31 l[i] := by
  unfold rd_T31
  simp [h]
theorem cmp_loop (l : List Hand.I5) (hl : l.length ≤ 4000) : ∀ (r i k : Nat), i + r = l.length → r < k → demesnelaw11_ScriptDecodes.l0 k (l.map toS28) (l.map toS31) (i : Int) = some true
  | 0, i, k, hi, hk => by
    obtain ⟨k, rfl⟩ : ∃ j, k = j + 1 := ⟨k - 1, by omega⟩
    simp only [demesnelaw11_ScriptDecodes.l0]
    rw [if_neg (by rw [List.length_map]; omega), wk]
    rfl
  | r + 1, i, k, hi, hk => by
    obtain ⟨k, rfl⟩ : ∃ j, k = j + 1 := ⟨k - 1, by omega⟩
    simp only [demesnelaw11_ScriptDecodes.l0]
    rw [if_pos (by rw [List.length_map]; omega), if_pos (by omega), if_pos (by rw [List.length_map]; omega), rd28 l i (by omega), rd31 l i (by omega)]
    unfold demesnelaw11_Of.f
    rw [Option.bind_some]
    have hw : wrap64 ((i : Int) + 1) = ((i + 1 : Nat) : Int) := by rw [w_of _ (by omega) (by omega)]; omega
    rw [if_neg (by simp [toS28, toS31]), hw]
    exact cmp_loop l hl r (i + 1) k (by omega) (by omega)
theorem ScriptDecodes : demesnelaw11_ScriptDecodes.Pure := by
  intro a0 ha
  refine ⟨20000, ?_⟩
  unfold demesnelaw11_ScriptDecodes.f
  by_cases c : (a0.size : Int) > 5000
  · rw [if_pos c, wk]
    rfl
  rw [if_neg c]
  have j0 : ∀ (l : List Hand.I5) (k : Nat), l.length ≤ 4000 → l.length + 1 < k → demesnelaw11_ScriptDecodes.j0 k (l.map toS28) (l.map toS31) false = some true := by
    intro l k hl hk
    obtain ⟨k, rfl⟩ : ∃ j, k = j + 1 := ⟨k - 1, by omega⟩
    simp only [demesnelaw11_ScriptDecodes.j0]
    rw [if_neg (by decide)]
    exact cmp_loop l hl l.length 0 k (by omega) (by omega)
  by_cases c2 : 4000 < a0.size
  · unfold script_Decode.f demesneref11_Decode.f Hand.decR
    rw [Option.bind_some, if_pos (by omega), Option.bind_some, if_pos c2]
    exact j0 [] 20000 (by simp) (by simp)
  · unfold script_Decode.f
    rw [Option.bind_some, ref_all a0 20000 (by omega) (by omega), Option.bind_some, decR_eq a0 (by omega)]
    cases hd : Plain.dec (bytesOf a0) with
    | none =>
      show (if _ then _ else _) = _
      exact j0 [] 20000 (by simp) (by simp)
    | some l =>
      have hl := Plain.dec_length _ _ _ (Nat.le_refl _) hd
      rw [bytesOf_length] at hl
      show (if ((l.map toS28).length : Int) = ((([] : List S31) ++ l.map toS31).length : Int) then demesnelaw11_ScriptDecodes.j0 20000 (l.map toS28) ([] ++ l.map toS31) _ else _) = some true
      rw [List.nil_append, if_pos (by rw [List.length_map, List.length_map])]
      exact j0 l 20000 (by omega) (by omega)
end Go.Proofs.Ytdibmmcdmjpbpaa.Pure
