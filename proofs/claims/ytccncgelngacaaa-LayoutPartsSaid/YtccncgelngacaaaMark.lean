/- Proved here: what the closure 'mark' of LayoutParts does to memory, and that it answers true where its places are free; no condition but those that each theorem writes out. -/
import Derived.Test.YtccncgelngacaaaHand
import Derived.Test.YtccncgelngacaaaProg
import Derived.WalkKit
import Derived.Below
import Derived.KernelRfl
import Derived.Deep.QuietTactic
import Derived.BigQuiet
import Derived.Laws.Rows
import Derived.Laws.Tables
import Derived.Laws.CopyRow
import Derived.LoopTactic
import Derived.Lib.Hide
namespace Go.Proofs.Ytccncgelngacaaa.Hand
open Go.RowKit
set_option linter.unusedVariables false
set_option linter.unusedSimpArgs false
def seenC (n : Nat) (P : Nat → Bool) : Array Value := ((List.range n).map fun i => Value.int .i64 (if P i = true then 1 else 0)).toArray
theorem seenC_size (n : Nat) (P : Nat → Bool) : (seenC n P).size = n := by simp [seenC]
theorem seenC_at (n : Nat) (P : Nat → Bool) (i : Nat) (h : i < n) : (seenC n P)[i]? = some (.int .i64 (if P i = true then 1 else 0)) := by simp [seenC, h]
def addR (P : Nat → Bool) (a k : Nat) : Nat → Bool := fun i => P i || (decide (a ≤ i) && decide (i < a + k))
theorem addR_zero (P : Nat → Bool) (a : Nat) : addR P a 0 = P := by
  funext i
  unfold addR
  by_cases c : a ≤ i
  · rw [decide_eq_false (show ¬ i < a + 0 by omega)]; simp
  · rw [decide_eq_false c]; simp
theorem seenC_set (n : Nat) (P : Nat → Bool) (a k : Nat) : (seenC n (addR P a k)).setIfInBounds (a + k) (.int .i64 1) = seenC n (addR P a (k + 1)) := by
  unfold seenC
  apply Array.ext'
  simp only [List.setIfInBounds_toArray]
  apply List.ext_getElem
  · simp
  · intro i h1 h2
    simp only [List.getElem_set, List.getElem_map, List.getElem_range]
    by_cases c : a + k = i
    · subst c
      have e : addR P a (k + 1) (a + k) = true := by
        unfold addR
        rw [decide_eq_true (show a ≤ a + k by omega), decide_eq_true (show a + k < a + (k + 1) by omega)]; simp
      rw [if_pos rfl, e, if_pos rfl]
    · rw [if_neg c]
      have e : addR P a k i = addR P a (k + 1) i := by
        unfold addR
        have e2 : decide (i < a + k) = decide (i < a + (k + 1)) := by rw [decide_eq_decide]; omega
        rw [e2]
      rw [e]
set_option maxHeartbeats 2000000 in
theorem mark_any (n a k : Nat) (P : Nat → Bool) (g9 g10 gs : Nat) (w : World) (h9 : g9 ≠ gs) (h10 : g10 ≠ gs)
    (b9 : w.heap[g9]? = some (.cells #[.int .i64 n] 3 (0, 0))) (b10 : w.heap[g10]? = some (.cells #[.slice (some ⟨gs, 0, none⟩) n n] 29 (0, 0))) (bs : w.heap[gs]? = some (.cells (seenC n P) 3 (0, 0)))
    (hn : n ≤ 4096) (hak : a + k ≤ n) (hP : ∀ i, a ≤ i → i < a + k → P i = false) :
    Calls Try.prog 9 #[.int .i64 a, .int .i64 k, .pointer (some ⟨g9, 0, none⟩), .pointer (some ⟨g10, 0, none⟩)] w fun e w' => e = .returned (.bool true) ∧ w.setRow gs (seenC n (addR P a k)) = w' := by
  have B9 := Lib.hid b9
  have B10 := Lib.hid b10
  have BS := Lib.hid bs
  have HP := Lib.hid hP
  have H9 := Lib.hid h9
  have H10 := Lib.hid h10
  clear b9 b10 bs hP h9 h10
  go_enter Try.func9, Try.ntmps9
  go_wp2
  go_loopw [7] (fun v7 wr => ∃ (j : Nat), j ≤ k ∧ v7 = .int .i64 ((a + j : Nat) : Int) ∧ Hid (wr = w.setRow gs (seenC n (addR P a j)))) (fun v7 _ => a + k - (intOf v7).toNat)
  case atStart =>
    refine ⟨0, by omega, rfl, Lib.hid ?_⟩
    rw [addR_zero, setRow_self _ _ _ _ _ BS.out]
  case round =>
    obtain ⟨j, hj, rfl, HW⟩ := hrel
    have q9 : wr.heap[g9]? = some (.cells #[.int .i64 n] 3 (0, 0)) := by rw [HW.out]; exact (setRow_other _ _ _ _ H9.out).trans B9.out
    have q10 : wr.heap[g10]? = some (.cells #[.slice (some ⟨gs, 0, none⟩) n n] 29 (0, 0)) := by rw [HW.out]; exact (setRow_other _ _ _ _ H10.out).trans B10.out
    have qs : wr.heap[gs]? = some (.cells (seenC n (addR P a j)) 3 (0, 0)) := by rw [HW.out]; exact setRow_heap _ _ _ _ _ _ BS.out
    have c9 : wr.cell? ⟨g9, 0, none⟩ = some (.int .i64 n) := (cell_of_row _ _ _ _ _ _ q9).trans rfl
    have c10 : wr.cell? ⟨g10, 0, none⟩ = some (.slice (some ⟨gs, 0, none⟩) n n) := (cell_of_row _ _ _ _ _ _ q10).trans rfl
    have QS := Lib.hid qs
    clear q9 q10 qs
    by_cases hlt : j < k
    · have cs : wr.cell? ⟨gs, a + j, none⟩ = some (.int .i64 0) := by
        refine (cell_of_row _ _ _ _ _ _ QS.out).trans ((seenC_at _ _ _ (by omega)).trans ?_)
        have e : addR P a j (a + j) = false := by
          unfold addR
          rw [HP.out (a + j) (by omega) (by omega), decide_eq_false (show ¬ a + j < a + j by omega)]; simp
        rw [e]; rfl
      have fs : wr.frozen? ⟨gs, a + j, none⟩ = false := frozen_of_row _ _ _ _ _ QS.out
      go_wp2
      go_roundw
      case rel =>
        refine ⟨j + 1, by omega, by go_num, Lib.hid ?_⟩
        rw [setCell_eq_setRow _ _ _ _ _ _ _ QS.out, seenC_set, HW.out, setRow_setRow]
      case measure => simp [intOf]; omega
    · obtain rfl : j = k := by omega
      go_wp2
      go_ret
      exact ⟨rfl, HW.out.symm⟩
theorem mark_int (n a k : Nat) (aI kI : Int) (ha : aI = (a : Int)) (hk : kI = (k : Int)) (P : Nat → Bool) (g9 g10 gs : Nat) (w : World) (h9 : g9 ≠ gs) (h10 : g10 ≠ gs)
    (b9 : w.heap[g9]? = some (.cells #[.int .i64 n] 3 (0, 0))) (b10 : w.heap[g10]? = some (.cells #[.slice (some ⟨gs, 0, none⟩) n n] 29 (0, 0))) (bs : w.heap[gs]? = some (.cells (seenC n P) 3 (0, 0)))
    (hn : n ≤ 4096) (hak : a + k ≤ n) (hP : ∀ i, a ≤ i → i < a + k → P i = false) :
    Calls Try.prog 9 #[.int .i64 aI, .int .i64 kI, .pointer (some ⟨g9, 0, none⟩), .pointer (some ⟨g10, 0, none⟩)] w fun e w' => e = .returned (.bool true) ∧ w.setRow gs (seenC n (addR P a k)) = w' := by
  subst ha hk
  exact mark_any n a k P g9 g10 gs w h9 h10 b9 b10 bs hn hak hP
/-- The places below j. -/
def pA (j : Nat) : Nat → Bool := fun i => decide (i < j)
/-- The places below c + i, and those of i blocks from m on. -/
def pB (c m i : Nat) : Nat → Bool := fun p => decide (p < c + i) || (decide (m ≤ p) && decide (p < m + 32 * i))
theorem pA_zero : pA 0 = fun _ => false := by
  funext i; unfold pA; exact decide_eq_false (by omega)
theorem pA_add (j : Nat) : addR (pA j) j 1 = pA (j + 1) := by
  funext i
  unfold addR pA
  by_cases c : i < j
  · rw [decide_eq_true c, decide_eq_true (show i < j + 1 by omega)]; rfl
  · rw [decide_eq_false c]
    by_cases d : i = j
    · rw [decide_eq_true (show j ≤ i by omega), decide_eq_true (show i < j + 1 by omega)]; rfl
    · rw [decide_eq_false (show ¬ i < j + 1 by omega)]; simp
theorem pB_zero (c m : Nat) : pB c m 0 = pA c := by
  funext i
  unfold pB pA
  by_cases h : m ≤ i
  · rw [decide_eq_false (show ¬ i < m + 32 * 0 by omega)]; simp
  · rw [decide_eq_false h]; simp
theorem pB_add (c m i : Nat) (h : c + i < m) : addR (addR (pB c m i) (c + i) 1) (m + 32 * i) 32 = pB c m (i + 1) := by
  funext p
  unfold addR pB
  rw [Bool.eq_iff_iff]
  simp only [Bool.or_eq_true, Bool.and_eq_true, decide_eq_true_eq]
  omega
theorem pB_no1 (c m i : Nat) (h : c + i < m) : pB c m i (c + i) = false := by
  unfold pB
  rw [decide_eq_false (show ¬ c + i < c + i by omega), decide_eq_false (show ¬ m ≤ c + i by omega)]; rfl
theorem pB_no2 (c m i p : Nat) (h : c + i < m) (h1 : m + 32 * i ≤ p) : addR (pB c m i) (c + i) 1 p = false := by
  unfold addR pB
  rw [decide_eq_false (show ¬ p < c + i by omega), decide_eq_false (show ¬ p < m + 32 * i by omega), decide_eq_false (show ¬ p < c + i + 1 by omega)]; simp
theorem pB_all (c m b p : Nat) (h : c + b = m) (h1 : p < m + 32 * b) : pB c m b p = true := by
  unfold pB
  by_cases d : p < c + b
  · rw [decide_eq_true d]; rfl
  · rw [decide_eq_true (show m ≤ p by omega), decide_eq_true h1]; simp
theorem pB_no1i (c m j i : Nat) (h : c + j < m) (h1 : c + j ≤ i) (h2 : i < c + j + 1) : pB c m j i = false := by
  have e : i = c + j := by omega
  rw [e]
  exact pB_no1 c m j h
theorem seen_all (n c m b i : Nat) (h : c + b = m) (hn : n = m + 32 * b) (hi : i < n) : (seenC n (pB c m b))[i]? = some (.int .i64 1) := by
  rw [seenC_at _ _ _ hi, pB_all c m b i h (by omega), if_pos rfl]
end Go.Proofs.Ytccncgelngacaaa.Hand
