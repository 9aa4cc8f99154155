/- The pure law of ClassPlaces: for any class and offset the statement's function, as the print tells it, answers true. No condition. -/
import Derived.Test.YtoibpomlahlnoaaPClassPlacesx2
import Derived.OpenShut
namespace Go.Proofs.Ytoibpomlahlnoaa.Pure
open Go.RowKit Go.Proofs.Ytoibpomlahlnoaa.PClassPlaces Go.Proofs.YtoibpomlahlnoaaW.PrintWords Go.Proofs.YtoibpomlahlnoaaW.PrintLast
theorem wk (k : Nat) (h : 9 ≤ k) : demesnelaw03_wakes.f k = some true :=
  at_rounds demesnelaw03_wakes.mono h (by decide +kernel)
theorem five (a : Int) : a = 0 ∨ a = 1 ∨ a = 2 ∨ a = 3 ∨ (¬ a = 0 ∧ ¬ a = 1 ∧ ¬ a = 2 ∧ ¬ a = 3) := by omega
theorem words_eq (a : Int) : class_Words.f a = some (if a = 0 then 2 else if a = 1 then 3 else if a = 2 then 5 else if a = 3 then 9 else 0) := by
  rcases five a with rfl | rfl | rfl | rfl | ⟨h0, h1, h2, h3⟩
  · decide +kernel
  · decide +kernel
  · decide +kernel
  · decide +kernel
  · simp only [class_Words.f, class_Room.f, Option.bind_some, if_neg h0, if_neg h1, if_neg h2, if_neg h3, if_true]
theorem cells_eq (a : Int) : class_Cells.f a = some (if a = 0 then 16 else if a = 1 then 10 else if a = 2 then 6 else if a = 3 then 3 else 0) := by
  rcases five a with rfl | rfl | rfl | rfl | ⟨h0, h1, h2, h3⟩
  · decide +kernel
  · decide +kernel
  · decide +kernel
  · decide +kernel
  · simp only [class_Cells.f, words_eq, Option.bind_some, if_neg h0, if_neg h1, if_neg h2, if_neg h3, if_true]
theorem s0 : demesneref03_Words.f 0 = some 2 := rfl
theorem s1 : demesneref03_Words.f 1 = some 3 := rfl
theorem s2 : demesneref03_Words.f 2 = some 5 := rfl
theorem s3 : demesneref03_Words.f 3 = some 9 := rfl
theorem l0_out (c x n : Int) (l : List Int) (hw : demesneref03_Words.f c = some n) (hl : ∀ j : Int, 0 ≤ j → j < l.length → 0 ≤ rd l j ∧ rd l j + n ≤ 32) (hx : x < 0 ∨ 32 ≤ x) (h1 : -1099511627776 ≤ x) (h2 : x ≤ 1099511627776) (h3 : l.length ≤ 16) (d : Nat) : ∀ (k : Nat) (i : Int), 0 ≤ i → i ≤ l.length → (l.length : Int) - i = d → d + 10 ≤ k → demesnelaw03_ClassPlaces.l0 k c x 0 false l i = some true := by
  induction d with
  | zero =>
    intro k i hi hi' hd hk
    obtain ⟨k, rfl⟩ : ∃ m, k = m + 1 := ⟨k - 1, by omega⟩
    simp only [demesnelaw03_ClassPlaces.l0]
    rw [if_neg (by omega), if_neg (by decide), if_pos trivial, wk k (by omega)]
    rfl
  | succ d ih =>
    intro k i hi hi' hd hk
    obtain ⟨k, rfl⟩ : ∃ m, k = m + 1 := ⟨k - 1, by omega⟩
    have e : wrap64 (i + 1) = i + 1 := by unfold wrap64; omega
    have hj := hl i hi (by omega)
    have hr := ih k (i + 1) (by omega) (by omega) (by omega) (by omega)
    simp only [demesnelaw03_ClassPlaces.l0]
    rw [if_pos (by omega), if_pos hi, e, hr, hw, Option.bind_some]
    by_cases hc : x ≥ rd l i
    · have e2 : wrap64 (x - rd l i) = x - rd l i := by unfold wrap64; omega
      rw [if_pos hc, e2, if_neg (by omega)]
    · rw [if_neg hc]
theorem place_out (c x : Int) (hx : x < 0 ∨ 32 ≤ x) : class_Place.f c x = some (0, false) := by
  unfold class_Place.f
  rw [words_eq]
  simp only [Option.bind_some]
  by_cases h : x < 0
  · rw [if_pos h]; exact ite_self _
  rw [cells_eq]
  simp only [Option.bind_some, if_neg h]
  have a0 : wrap64 (16 * 2) = 32 := by decide +kernel
  have a1 : wrap64 (10 * 3) = 30 := by decide +kernel
  have a2 : wrap64 (6 * 5) = 30 := by decide +kernel
  have a3 : wrap64 (3 * 9) = 27 := by decide +kernel
  rcases five c with rfl | rfl | rfl | rfl | ⟨h0, h1, h2, h3⟩
  · rw [if_neg (by decide), if_pos rfl, if_pos rfl, a0, if_pos (by omega)]
  · rw [if_neg (by decide)]; simp only [if_neg (show ¬ (1 : Int) = 0 by decide), if_true]; rw [a1, if_pos (by omega)]
  · rw [if_neg (by decide)]; simp only [if_neg (show ¬ (2 : Int) = 0 by decide), if_neg (show ¬ (2 : Int) = 1 by decide), if_true]; rw [a2, if_pos (by omega)]
  · rw [if_neg (by decide)]; simp only [if_neg (show ¬ (3 : Int) = 0 by decide), if_neg (show ¬ (3 : Int) = 1 by decide), if_neg (show ¬ (3 : Int) = 2 by decide), if_true]; rw [a3, if_pos (by omega)]
  · simp only [if_neg h0, if_neg h1, if_neg h2, if_neg h3, if_true]
theorem l0_nil (k : Nat) (c x : Int) (hk : 10 ≤ k) : demesnelaw03_ClassPlaces.l0 k c x 0 false [] 0 = some true := by
  obtain ⟨k, rfl⟩ : ∃ m, k = m + 1 := ⟨k - 1, by omega⟩
  simp only [demesnelaw03_ClassPlaces.l0]
  rw [if_neg (by decide), if_neg (by decide), if_pos trivial, wk k (by omega)]
  rfl
theorem inside : (List.range 4).all (fun c => (List.range 32).all fun x => demesnelaw03_ClassPlaces.j0 40 (c : Int) (x : Int) false == some true) = true := by decide +kernel
theorem place_none (c x : Int) (h0 : ¬ c = 0) (h1 : ¬ c = 1) (h2 : ¬ c = 2) (h3 : ¬ c = 3) : class_Place.f c x = some (0, false) := by
  unfold class_Place.f
  rw [words_eq]
  simp only [Option.bind_some, if_neg h0, if_neg h1, if_neg h2, if_neg h3, if_true]
def st0 : List Int := [0, 2, 4, 6, 8, 10, 12, 14, 16, 18, 20, 22, 24, 26, 28, 30]
def st1 : List Int := [0, 3, 6, 9, 12, 15, 18, 21, 24, 27]
def st2 : List Int := [0, 5, 10, 15, 20, 25]
def st3 : List Int := [0, 9, 18]
theorem low (l : List Int) (n : Int) (h : (List.range l.length).all (fun j => decide (0 ≤ rd l (j : Int) ∧ rd l (j : Int) + n ≤ 32)) = true) : ∀ j : Int, 0 ≤ j → j < l.length → 0 ≤ rd l j ∧ rd l j + n ≤ 32 := by
  intro j h0 h1
  have := List.all_eq_true.mp h j.toNat (List.mem_range.mpr (by omega))
  rw [show ((j.toNat : Nat) : Int) = j by omega] at this
  exact of_decide_eq_true this
theorem j0_eq (c x : Int) (h1 : -1099511627776 ≤ x) (h2 : x ≤ 1099511627776) : demesnelaw03_ClassPlaces.j0 40 c x false = some true := by
  have pick : ∀ c' : Nat, c' < 4 → 0 ≤ x → x < 32 → demesnelaw03_ClassPlaces.j0 40 (c' : Int) x false = some true := by
    intro c' hc a b
    have := List.all_eq_true.mp (List.all_eq_true.mp inside c' (List.mem_range.mpr hc)) x.toNat (List.mem_range.mpr (by omega))
    rw [show ((x.toNat : Nat) : Int) = x by omega] at this
    exact beq_iff_eq.mp this
  have out : ∀ (n : Int) (l : List Int), demesneref03_Words.f c = some n → demesneref03_Starts.f 39 c = some l → (∀ j : Int, 0 ≤ j → j < l.length → 0 ≤ rd l j ∧ rd l j + n ≤ 32) → l.length ≤ 16 → (x < 0 ∨ 32 ≤ x) → demesnelaw03_ClassPlaces.j0 40 c x false = some true := by
    intro n l hw hs hl hn hx
    simp only [demesnelaw03_ClassPlaces.j0]
    rw [if_neg (by decide), place_out c x hx, Option.bind_some, hs, Option.bind_some]
    exact l0_out c x n l hw hl hx h1 h2 hn l.length 39 0 (by omega) (by omega) (by omega) (by omega)
  rcases five c with rfl | rfl | rfl | rfl | ⟨h0, h1', h2', h3'⟩
  · by_cases hx : x < 0 ∨ 32 ≤ x
    · exact out 2 st0 rfl (by decide +kernel) (low _ _ (by decide +kernel)) (by decide) hx
    · exact pick 0 (by decide) (by omega) (by omega)
  · by_cases hx : x < 0 ∨ 32 ≤ x
    · exact out 3 st1 rfl (by decide +kernel) (low _ _ (by decide +kernel)) (by decide) hx
    · exact pick 1 (by decide) (by omega) (by omega)
  · by_cases hx : x < 0 ∨ 32 ≤ x
    · exact out 5 st2 rfl (by decide +kernel) (low _ _ (by decide +kernel)) (by decide) hx
    · exact pick 2 (by decide) (by omega) (by omega)
  · by_cases hx : x < 0 ∨ 32 ≤ x
    · exact out 9 st3 rfl (by decide +kernel) (low _ _ (by decide +kernel)) (by decide) hx
    · exact pick 3 (by decide) (by omega) (by omega)
  · have hs : demesneref03_Starts.f 39 c = some [] := by
      simp only [demesneref03_Starts.f, demesneref03_Words.f, if_neg h0, if_neg h1', if_neg h2', if_neg h3', Option.bind_some]
      decide +kernel
    simp only [demesnelaw03_ClassPlaces.j0]
    rw [if_neg (by decide), place_none c x h0 h1' h2' h3', Option.bind_some, hs, Option.bind_some]
    exact l0_nil 39 c x (by omega)
theorem ClassPlaces : demesnelaw03_ClassPlaces.Pure := by
  intro a b _ _
  refine ⟨40, ?_⟩
  unfold demesnelaw03_ClassPlaces.f
  have early : demesnelaw03_ClassPlaces.j0 40 a b true = some true := by
    simp only [demesnelaw03_ClassPlaces.j0, if_true]
    rw [wk 39 (by omega)]; rfl
  by_cases h1 : a > 1099511627776
  · rw [if_pos h1]; exact early
  rw [if_neg h1]
  by_cases h2 : b > 1099511627776
  · rw [if_pos h2]; exact early
  rw [if_neg h2]
  by_cases h3 : b < -1099511627776
  · rw [decide_eq_true h3]; exact early
  rw [decide_eq_false h3]
  exact j0_eq a b (by omega) (by omega)
end Go.Proofs.Ytoibpomlahlnoaa.Pure
