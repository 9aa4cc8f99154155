/- The pure law of ClassTells: for any two numbers the statement's function, as the print tells it, answers true. No condition. -/
import Derived.Test.YtoibpomlahlnoaaPClassTellsx2
import Derived.OpenShut
namespace Go.Proofs.Ytoibpomlahlnoaa.Pure
open Go.RowKit Go.Proofs.Ytoibpomlahlnoaa.PClassTells Go.Proofs.YtoibpomlahlnoaaW.PrintWords Go.Proofs.YtoibpomlahlnoaaW.PrintLast
theorem wk (k : Nat) (h : 9 ≤ k) : demesnelaw03_wakes.f k = some true :=
  at_rounds demesnelaw03_wakes.mono h (by decide +kernel)
theorem five (a : Int) : a = 0 ∨ a = 1 ∨ a = 2 ∨ a = 3 ∨ (¬ a = 0 ∧ ¬ a = 1 ∧ ¬ a = 2 ∧ ¬ a = 3) := by omega
theorem words_eq (a : Int) : class_Words.f a = some (if a = 0 then 2 else if a = 1 then 3 else if a = 2 then 5 else if a = 3 then 9 else 0) := by
  rcases five a with rfl | rfl | rfl | rfl | ⟨h0, h1, h2, h3⟩
  · decide +kernel
  · decide +kernel
  · decide +kernel
  · decide +kernel
  · simp only [class_Words.f, class_Room.f, Option.bind_some, if_neg h0, if_neg h1, if_neg h2, if_neg h3, if_true]
theorem cells_eq (a : Int) : class_Cells.f a = some (if a = 0 then 16 else if a = 1 then 10 else if a = 2 then 6 else if a = 3 then 3 else 0) := by
  rcases five a with rfl | rfl | rfl | rfl | ⟨h0, h1, h2, h3⟩
  · decide +kernel
  · decide +kernel
  · decide +kernel
  · decide +kernel
  · simp only [class_Cells.f, words_eq, Option.bind_some, if_neg h0, if_neg h1, if_neg h2, if_neg h3, if_true]
theorem w1 : wrap64 (0 + 1) = 1 := by decide +kernel
theorem w2 : wrap64 (1 + 1) = 2 := by decide +kernel
theorem w3 : wrap64 (2 + 1) = 3 := by decide +kernel
theorem w4 : wrap64 (3 + 1) = 4 := by decide +kernel
theorem r0 : class_Room.f 0 = some 1 := rfl
theorem r1 : class_Room.f 1 = some 2 := rfl
theorem r2 : class_Room.f 2 = some 4 := rfl
theorem r3 : class_Room.f 3 = some 8 := rfl
theorem s0 : demesneref03_Words.f 0 = some 2 := rfl
theorem s1 : demesneref03_Words.f 1 = some 3 := rfl
theorem s2 : demesneref03_Words.f 2 = some 5 := rfl
theorem s3 : demesneref03_Words.f 3 = some 9 := rfl
theorem i0 : (0 : Int) < 4 := by decide
theorem i1 : (1 : Int) < 4 := by decide
theorem i2 : (2 : Int) < 4 := by decide
theorem i3 : (3 : Int) < 4 := by decide
theorem i4 : ¬ (4 : Int) < 4 := by decide
def ofp (a : Int) : Int × Bool := if a < 0 then (0, false) else if a ≤ 1 then (0, true) else if a ≤ 2 then (1, true) else if a ≤ 4 then (2, true) else if a ≤ 8 then (3, true) else (0, false)
theorem of_eq (a : Int) : class_Of.f 5 a = some (ofp a) := by
  unfold ofp
  simp only [class_Of.f, class_Of.l0, w1, w2, w3, w4, r0, r1, r2, r3, if_pos i0, if_pos i1, if_pos i2, if_pos i3, if_neg i4, Option.bind_some]
  repeat' split
  all_goals first | rfl | omega
def rofp (a : Int) : Int := if a < 0 then -1 else if a ≤ 1 then 0 else if a ≤ 2 then 1 else if a ≤ 4 then 2 else if a ≤ 8 then 3 else -1
theorem rof_eq (a : Int) (h : -9223372036854775808 ≤ a) (h' : a ≤ 1099511627776) : demesneref03_Of.f 5 a = some (rofp a) := by
  have e5 : wrap64 (a + 1) = a + 1 := by unfold wrap64; omega
  unfold rofp
  simp only [demesneref03_Of.f, demesneref03_Of.l0, w1, w2, w3, w4, s0, s1, s2, s3, e5, if_pos i0, if_pos i1, if_pos i2, if_pos i3, if_neg i4, Option.bind_some]
  repeat' split
  all_goals first | rfl | omega
def runp (a : Int) : Int := if a ≤ 8 ∨ a > 95 then 0 else if a < 32 then 1 else if a < 64 then 2 else 3
theorem run_eq (a : Int) : class_Run.f a = some (runp a, !decide (a ≤ 8 ∨ a > 95)) := by
  unfold class_Run.f runp
  by_cases h1 : a ≤ 8
  · rw [if_pos h1, if_pos (Or.inl h1), decide_eq_true (Or.inl h1)]; rfl
  by_cases h2 : a > 95
  · rw [if_neg h1, if_pos h2, if_pos (Or.inr h2), decide_eq_true (Or.inr h2)]; rfl
  rw [if_neg h1, if_neg h2, if_neg (by omega), decide_eq_false (show ¬ (a ≤ 8 ∨ a > 95) by omega)]
  have e : wrap64 (a + 32) = a + 32 := by unfold wrap64; omega
  rw [e, Int.tdiv_eq_ediv_of_nonneg (by omega)]
  have e2 : wrap64 ((a + 32) / 32) = if a < 32 then 1 else if a < 64 then 2 else 3 := by
    unfold wrap64
    repeat' split
    all_goals omega
  rw [e2]; rfl
theorem rrun_eq (a : Int) : demesneref03_Run.f 1 a = some (runp a) := by
  unfold runp
  simp only [demesneref03_Run.f, demesneref03_Run.j0, decide_eq_true_eq, if_true]
  repeat' split
  all_goals first | rfl | omega
theorem starts_len (a : Int) : ∃ l, demesneref03_Starts.f 20 a = some l ∧ (l.length : Int) = (if a = 0 then 16 else if a = 1 then 10 else if a = 2 then 6 else if a = 3 then 3 else 0) := by
  rcases five a with rfl | rfl | rfl | rfl | ⟨h0, h1, h2, h3⟩
  · exact ⟨[0, 2, 4, 6, 8, 10, 12, 14, 16, 18, 20, 22, 24, 26, 28, 30], by decide +kernel, by decide +kernel⟩
  · exact ⟨[0, 3, 6, 9, 12, 15, 18, 21, 24, 27], by decide +kernel, by decide +kernel⟩
  · exact ⟨[0, 5, 10, 15, 20, 25], by decide +kernel, by decide +kernel⟩
  · exact ⟨[0, 9, 18], by decide +kernel, by decide +kernel⟩
  · refine ⟨[], ?_, ?_⟩
    · simp only [demesneref03_Starts.f, demesneref03_Words.f, if_neg h0, if_neg h1, if_neg h2, if_neg h3, Option.bind_some]
      decide +kernel
    · simp only [if_neg h0, if_neg h1, if_neg h2, if_neg h3]; rfl
theorem j2_eq (k : Nat) (a : Int) (n m : Int) (hk : 21 ≤ k) (hn : n = (if a = 0 then 2 else if a = 1 then 3 else if a = 2 then 5 else if a = 3 then 9 else 0)) (hm : m = (if a = 0 then 1 else if a = 1 then 2 else if a = 2 then 4 else if a = 3 then 8 else 0)) : demesnelaw03_ClassTells.j2 k a n m = some true := by
  obtain ⟨k, rfl⟩ : ∃ m, k = m + 1 := ⟨k - 1, by omega⟩
  obtain ⟨l, hl, hn'⟩ := starts_len a
  have hl' := at_rounds (demesneref03_Starts.mono a) (show 20 ≤ k by omega) hl
  simp only [demesnelaw03_ClassTells.j2]
  rw [words_eq, Option.bind_some, if_pos hn.symm, class_Room.f, Option.bind_some, if_pos hm.symm, cells_eq, Option.bind_some, hl', Option.bind_some, if_pos hn'.symm, wk k (by omega)]
  rfl
theorem j1_eq (k : Nat) (a : Int) (hk : 22 ≤ k) : demesnelaw03_ClassTells.j1 k a false = some true := by
  obtain ⟨k, rfl⟩ : ∃ m, k = m + 1 := ⟨k - 1, by omega⟩
  simp only [demesnelaw03_ClassTells.j1]
  rw [if_neg (by decide)]
  rcases five a with rfl | rfl | rfl | rfl | ⟨h0, h1, h2, h3⟩
  · rw [s0, Option.bind_some, if_pos (by decide)]; exact j2_eq _ _ _ _ (by omega) (by decide +kernel) (by decide +kernel)
  · rw [s1, Option.bind_some, if_pos (by decide)]; exact j2_eq _ _ _ _ (by omega) (by decide +kernel) (by decide +kernel)
  · rw [s2, Option.bind_some, if_pos (by decide)]; exact j2_eq _ _ _ _ (by omega) (by decide +kernel) (by decide +kernel)
  · rw [s3, Option.bind_some, if_pos (by decide)]; exact j2_eq _ _ _ _ (by omega) (by decide +kernel) (by decide +kernel)
  · simp only [demesneref03_Words.f, if_neg h0, if_neg h1, if_neg h2, if_neg h3, Option.bind_some]
    rw [if_neg (by decide)]
    exact j2_eq _ _ _ _ (by omega) (by simp only [if_neg h0, if_neg h1, if_neg h2, if_neg h3]) (by simp only [if_neg h0, if_neg h1, if_neg h2, if_neg h3])
theorem parts (a : Int) : ((ofp a).2 = decide (rofp a ≥ 0)) ∧ ((ofp a).2 = true → (ofp a).1 = rofp a) ∧ (¬ (ofp a).2 = true → (ofp a).1 = 0) ∧ (!decide (a ≤ 8 ∨ a > 95)) = decide (runp a > 0) := by
  unfold ofp rofp runp
  refine ⟨?_, ?_, ?_, ?_⟩
  · repeat' split
    all_goals rfl
  · repeat' split
    all_goals intro h
    all_goals first | rfl | exact absurd h (by decide)
  · repeat' split
    all_goals intro h
    all_goals first | rfl | exact absurd h (by decide) | exact absurd rfl h
  · by_cases h : a ≤ 8 ∨ a > 95
    · rw [decide_eq_true h, if_pos h]; rfl
    · rw [decide_eq_false h, if_neg h]
      repeat' split
      all_goals rfl
theorem ClassTells : demesnelaw03_ClassTells.Pure := by
  intro a b ha hb
  have ha' := bounds_i64 ha
  refine ⟨24, ?_⟩
  unfold demesnelaw03_ClassTells.f
  have early : demesnelaw03_ClassTells.j0 24 a b true = some true := by
    simp only [demesnelaw03_ClassTells.j0, if_true]
    rw [wk 23 (by omega)]; rfl
  by_cases h1 : a > 1099511627776
  · rw [if_pos h1]; exact early
  rw [if_neg h1]
  by_cases h2 : b > 1099511627776
  · rw [decide_eq_true h2]; exact early
  rw [decide_eq_false h2]
  obtain ⟨p1, p2, p3, p4⟩ := parts a
  simp only [demesnelaw03_ClassTells.j0]
  rw [if_neg (by decide), at_rounds (class_Of.mono a) (show 5 ≤ 23 by omega) (of_eq a), Option.bind_some, run_eq, Option.bind_some, at_rounds (demesneref03_Of.mono a) (show 5 ≤ 23 by omega) (rof_eq a ha'.1 (by omega)), Option.bind_some, if_neg (by rw [← p1]; simp), at_rounds (demesneref03_Run.mono a) (show 1 ≤ 23 by omega) (rrun_eq a)]
  simp only [Option.bind_some, if_true, p4, bne_self_eq_false]
  by_cases h3 : (ofp a).2 = true
  · rw [if_pos h3, if_pos (p2 h3)]; exact j1_eq _ _ (by omega)
  · rw [if_neg h3, if_pos (p3 h3)]; exact j1_eq _ _ (by omega)
end Go.Proofs.Ytoibpomlahlnoaa.Pure
