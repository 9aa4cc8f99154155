/- Proved here: what 'plain', its closure, 'may', 'Put' and 'Take' of package table answer and what they do to memory; no condition but those that each theorem writes out. -/
import Derived.Test.YtdnljkjmcidlmaaWMore
import Derived.Test.YtdnljkjmcidlmaaWEqStruct
import Derived.Test.YtdnljkjmcidlmaaProg
import Derived.WalkKit
import Derived.Below
import Derived.KernelRfl
import Derived.Deep.QuietTactic
import Derived.BigQuiet
import Derived.RegionTactic
import Derived.ChangeAlike
import Derived.Laws.Bits64
import Derived.Laws.BitsLemmas
namespace Go.Proofs.Ytdnljkjmcidlmaa.Hand
open Go.RowKit Go.Proofs.YtdnljkjmcidlmaaW.PrintWords Go.Proofs.YtdnljkjmcidlmaaW.PrintLast Go.Proofs.YtdnljkjmcidlmaaW.PrintMore
set_option linter.unusedVariables false
set_option linter.unusedSimpArgs false
theorem eqE (d : Nat) (w : World) (x0 y0 : Int) (x1 y1 : Int) (x2 y2 : Int) (x3 y3 : Int) :
    (Op.equalIn (d + 2) 28 (.agg #[.int .u8 x0, .int .u8 x1, .int .u8 x2, .int .u8 x3]) (.agg #[.int .u8 y0, .int .u8 y1, .int .u8 y2, .int .u8 y3])).run Try.prog w = .ok (x0 == y0 && (x1 == y1 && (x2 == y2 && (x3 == y3)))) w := by
  refine eqA_of Try.underlying28 (by kernel_rfl) ?_
  refine eqf_cons (by rfl) (by go_simp; rfl) (by go_simp; rfl) (by go_simp) ?_
  refine eqf_cons (by rfl) (by go_simp; rfl) (by go_simp; rfl) (by go_simp) ?_
  refine eqf_cons (by rfl) (by go_simp; rfl) (by go_simp; rfl) (by go_simp) ?_
  exact eqf_last (by rfl) (by go_simp; rfl) (by go_simp; rfl) (by go_simp)
attribute [local go_sem high] eqE
theorem drop_no (p : Addr) (w : World) : Calls Try.prog 16 #[.bool false, .pointer (some p)] w fun e w' => e = .returned (.tuple #[]) ∧ w = w' := by
  go_enter Try.func16, Try.ntmps16
  go_wp2
  go_end0
  exact ⟨rfl, rfl⟩
theorem drop_yes (p : Addr) (x : Int) (w : World) (hc : w.cell? p = some (.int .u8 x)) (hf : w.frozen? p = false) : Calls Try.prog 16 #[.bool true, .pointer (some p)] w fun e w' => e = .returned (.tuple #[]) ∧ w.setCell p (.int .u8 0) = w' := by
  go_enter Try.func16, Try.ntmps16
  go_wp2
  go_end0
  exact ⟨rfl, rfl⟩
theorem plain_small (a0 a1 a2 a3 : Int) (w : World) (f1 : (a0 == 1) = true) (f2 : (a0 == 2) = false) (f4 : (a0 == 4) = false) (f5 : (a0 == 5) = false) :
    Calls Try.prog 15 #[.agg #[.int .u8 a0, .int .u8 a1, .int .u8 a2, .int .u8 a3]] w fun e w' => e = .returned (.agg #[.int .u8 0, .int .u8 0, .int .u8 a2, .int .u8 0]) ∧ (w.alloc (.cells #[.int .u8 0, .int .u8 0, .int .u8 a2, .int .u8 0] 28)).alloc (.cells #[.int .u8 0, .int .u8 0, .int .u8 a2, .int .u8 0] 28) = w' := by
  go_enter Try.func15, Try.ntmps15
  go_wp2_with fail
  refine (drop_yes _ _ _ (by go_simp; rfl) (by go_simp)).mono ?_
  rintro e w' ⟨rfl, rfl⟩
  go_wp2_with fail
  refine (drop_no _ _).mono ?_
  rintro e w' ⟨rfl, rfl⟩
  go_wp2_with fail
  refine (drop_yes _ _ _ (by go_simp; rfl) (by go_simp)).mono ?_
  rintro e w' ⟨rfl, rfl⟩
  go_wp2
  exact bodyPost_ret (v := .agg #[.int .u8 0, .int .u8 0, .int .u8 a2, .int .u8 0]) (by simp [results, Try.results15, go_sem]) rfl ⟨rfl, rfl⟩
theorem plain_head (a0 a1 a2 a3 : Int) (w : World) (f1 : (a0 == 1) = false) (f2 : (a0 == 2) = true) (f4 : (a0 == 4) = false) (f5 : (a0 == 5) = false) :
    Calls Try.prog 15 #[.agg #[.int .u8 a0, .int .u8 a1, .int .u8 a2, .int .u8 a3]] w fun e w' => e = .returned (.agg #[.int .u8 0, .int .u8 a1, .int .u8 0, .int .u8 0]) ∧ (w.alloc (.cells #[.int .u8 0, .int .u8 a1, .int .u8 0, .int .u8 0] 28)).alloc (.cells #[.int .u8 0, .int .u8 a1, .int .u8 0, .int .u8 0] 28) = w' := by
  go_enter Try.func15, Try.ntmps15
  go_wp2_with fail
  refine (drop_no _ _).mono ?_
  rintro e w' ⟨rfl, rfl⟩
  go_wp2_with fail
  refine (drop_yes _ _ _ (by go_simp; rfl) (by go_simp)).mono ?_
  rintro e w' ⟨rfl, rfl⟩
  go_wp2_with fail
  refine (drop_yes _ _ _ (by go_simp; rfl) (by go_simp)).mono ?_
  rintro e w' ⟨rfl, rfl⟩
  go_wp2
  exact bodyPost_ret (v := .agg #[.int .u8 0, .int .u8 a1, .int .u8 0, .int .u8 0]) (by simp [results, Try.results15, go_sem]) rfl ⟨rfl, rfl⟩
theorem plain_empt (a0 a1 a2 a3 : Int) (w : World) (f1 : (a0 == 1) = false) (f2 : (a0 == 2) = false) (f4 : (a0 == 4) = true) (f5 : (a0 == 5) = false) :
    Calls Try.prog 15 #[.agg #[.int .u8 a0, .int .u8 a1, .int .u8 a2, .int .u8 a3]] w fun e w' => e = .returned (.agg #[.int .u8 0, .int .u8 a1, .int .u8 a2, .int .u8 0]) ∧ (w.alloc (.cells #[.int .u8 0, .int .u8 a1, .int .u8 a2, .int .u8 0] 28)).alloc (.cells #[.int .u8 0, .int .u8 a1, .int .u8 a2, .int .u8 0] 28) = w' := by
  go_enter Try.func15, Try.ntmps15
  go_wp2_with fail
  refine (drop_no _ _).mono ?_
  rintro e w' ⟨rfl, rfl⟩
  go_wp2_with fail
  refine (drop_no _ _).mono ?_
  rintro e w' ⟨rfl, rfl⟩
  go_wp2_with fail
  refine (drop_yes _ _ _ (by go_simp; rfl) (by go_simp)).mono ?_
  rintro e w' ⟨rfl, rfl⟩
  go_wp2
  exact bodyPost_ret (v := .agg #[.int .u8 0, .int .u8 a1, .int .u8 a2, .int .u8 0]) (by simp [results, Try.results15, go_sem]) rfl ⟨rfl, rfl⟩
theorem plain_spent (a0 a1 a2 a3 : Int) (w : World) (f1 : (a0 == 1) = false) (f2 : (a0 == 2) = false) (f4 : (a0 == 4) = false) (f5 : (a0 == 5) = true) :
    Calls Try.prog 15 #[.agg #[.int .u8 a0, .int .u8 a1, .int .u8 a2, .int .u8 a3]] w fun e w' => e = .returned (.agg #[.int .u8 0, .int .u8 a1, .int .u8 0, .int .u8 0]) ∧ (w.alloc (.cells #[.int .u8 0, .int .u8 a1, .int .u8 0, .int .u8 0] 28)).alloc (.cells #[.int .u8 0, .int .u8 a1, .int .u8 0, .int .u8 0] 28) = w' := by
  go_enter Try.func15, Try.ntmps15
  go_wp2_with fail
  refine (drop_no _ _).mono ?_
  rintro e w' ⟨rfl, rfl⟩
  go_wp2_with fail
  refine (drop_yes _ _ _ (by go_simp; rfl) (by go_simp)).mono ?_
  rintro e w' ⟨rfl, rfl⟩
  go_wp2_with fail
  refine (drop_yes _ _ _ (by go_simp; rfl) (by go_simp)).mono ?_
  rintro e w' ⟨rfl, rfl⟩
  go_wp2
  exact bodyPost_ret (v := .agg #[.int .u8 0, .int .u8 a1, .int .u8 0, .int .u8 0]) (by simp [results, Try.results15, go_sem]) rfl ⟨rfl, rfl⟩
theorem plain_other (a0 a1 a2 a3 : Int) (w : World) (f1 : (a0 == 1) = false) (f2 : (a0 == 2) = false) (f4 : (a0 == 4) = false) (f5 : (a0 == 5) = false) :
    Calls Try.prog 15 #[.agg #[.int .u8 a0, .int .u8 a1, .int .u8 a2, .int .u8 a3]] w fun e w' => e = .returned (.agg #[.int .u8 0, .int .u8 a1, .int .u8 a2, .int .u8 a3]) ∧ (w.alloc (.cells #[.int .u8 0, .int .u8 a1, .int .u8 a2, .int .u8 a3] 28)).alloc (.cells #[.int .u8 0, .int .u8 a1, .int .u8 a2, .int .u8 a3] 28) = w' := by
  go_enter Try.func15, Try.ntmps15
  go_wp2_with fail
  refine (drop_no _ _).mono ?_
  rintro e w' ⟨rfl, rfl⟩
  go_wp2_with fail
  refine (drop_no _ _).mono ?_
  rintro e w' ⟨rfl, rfl⟩
  go_wp2_with fail
  refine (drop_no _ _).mono ?_
  rintro e w' ⟨rfl, rfl⟩
  go_wp2
  exact bodyPost_ret (v := .agg #[.int .u8 0, .int .u8 a1, .int .u8 a2, .int .u8 a3]) (by simp [results, Try.results15, go_sem]) rfl ⟨rfl, rfl⟩
theorem may_wide (a0 a1 a2 a3 : Int) (w : World) (h : 5 < a0 ∨ 4 ≤ a1 ∨ 64 ≤ a3 ∨ 3 < a2) :
    Calls Try.prog 14 #[.agg #[.int .u8 a0, .int .u8 a1, .int .u8 a2, .int .u8 a3]] w fun e w' => e = .returned (.bool false) ∧ Below w.heap.size w w' := by
  by_cases c0 : 5 < a0
  · have d0 := decide_eq_true c0
    clear c0 h
    go_enter Try.func14, Try.ntmps14
    go_wp2
    go_ret
    exact ⟨rfl, (Below.refl _ _).alloc (Nat.le_refl _) _⟩
  have d0 := decide_eq_false c0
  by_cases c1 : 4 ≤ a1
  · have d1 := decide_eq_true c1
    clear c0 c1 h
    go_enter Try.func14, Try.ntmps14
    go_wp2
    go_ret
    exact ⟨rfl, (Below.refl _ _).alloc (Nat.le_refl _) _⟩
  have d1 := decide_eq_false c1
  by_cases c3 : 64 ≤ a3
  · have d3 := decide_eq_true c3
    clear c0 c1 c3 h
    go_enter Try.func14, Try.ntmps14
    go_wp2
    go_ret
    exact ⟨rfl, (Below.refl _ _).alloc (Nat.le_refl _) _⟩
  have d3 := decide_eq_false c3
  have d2 : decide (3 < a2) = true := decide_eq_true (by omega)
  clear c0 c1 c3 h
  go_enter Try.func14, Try.ntmps14
  go_wp2
  go_ret
  exact ⟨rfl, (Below.refl _ _).alloc (Nat.le_refl _) _⟩
theorem may_small (a0 a1 a2 a3 : Int) (w : World) (f1 : (a0 == 1) = true) (f2 : (a0 == 2) = false) (f4 : (a0 == 4) = false) (f5 : (a0 == 5) = false) (d0 : decide (5 < a0) = false) (d1 : decide (4 ≤ a1) = false) (d3 : decide (64 ≤ a3) = false) (d2 : decide (3 < a2) = false)  :
    Calls Try.prog 14 #[.agg #[.int .u8 a0, .int .u8 a1, .int .u8 a2, .int .u8 a3]] w fun e w' => e = .returned (.bool ((0 : Int) == 0 && (a2 == 0 && (0 : Int) == 0))) ∧ Below w.heap.size w w' := by
  go_enter Try.func14, Try.ntmps14
  go_wp2_with fail
  refine (plain_small a0 a1 a2 a3 _ f1 f2 f4 f5).mono ?_
  rintro e w' ⟨rfl, rfl⟩
  go_wp2
  go_ret
  exact ⟨by first | rfl | (simp; done), by repeat (first | exact Below.refl _ _ | (refine below_alloc ?_ _))⟩
theorem may_head_no (a0 a1 a2 a3 : Int) (w : World) (f1 : (a0 == 1) = false) (f2 : (a0 == 2) = true) (f4 : (a0 == 4) = false) (f5 : (a0 == 5) = false) (d0 : decide (5 < a0) = false) (d1 : decide (4 ≤ a1) = false) (d3 : decide (64 ≤ a3) = false) (d2 : decide (3 < a2) = false) (z2 : (a2 == 0) = true) :
    Calls Try.prog 14 #[.agg #[.int .u8 a0, .int .u8 a1, .int .u8 a2, .int .u8 a3]] w fun e w' => e = .returned (.bool false) ∧ Below w.heap.size w w' := by
  go_enter Try.func14, Try.ntmps14
  go_wp2
  go_ret
  exact ⟨rfl, (Below.refl _ _).alloc (Nat.le_refl _) _⟩
theorem may_head (a0 a1 a2 a3 : Int) (w : World) (f1 : (a0 == 1) = false) (f2 : (a0 == 2) = true) (f4 : (a0 == 4) = false) (f5 : (a0 == 5) = false) (d0 : decide (5 < a0) = false) (d1 : decide (4 ≤ a1) = false) (d3 : decide (64 ≤ a3) = false) (d2 : decide (3 < a2) = false) (z2 : (a2 == 0) = false) :
    Calls Try.prog 14 #[.agg #[.int .u8 a0, .int .u8 a1, .int .u8 a2, .int .u8 a3]] w fun e w' => e = .returned (.bool (a1 == 0 && ((0 : Int) == 0 && (0 : Int) == 0))) ∧ Below w.heap.size w w' := by
  go_enter Try.func14, Try.ntmps14
  go_wp2_with fail
  refine (plain_head a0 a1 a2 a3 _ f1 f2 f4 f5).mono ?_
  rintro e w' ⟨rfl, rfl⟩
  go_wp2
  go_ret
  exact ⟨by first | rfl | (simp; done), by repeat (first | exact Below.refl _ _ | (refine below_alloc ?_ _))⟩
theorem may_empt (a0 a1 a2 a3 : Int) (w : World) (f1 : (a0 == 1) = false) (f2 : (a0 == 2) = false) (f4 : (a0 == 4) = true) (f5 : (a0 == 5) = false) (d0 : decide (5 < a0) = false) (d1 : decide (4 ≤ a1) = false) (d3 : decide (64 ≤ a3) = false) (d2 : decide (3 < a2) = false)  :
    Calls Try.prog 14 #[.agg #[.int .u8 a0, .int .u8 a1, .int .u8 a2, .int .u8 a3]] w fun e w' => e = .returned (.bool (a1 == 0 && (a2 == 0 && (0 : Int) == 0))) ∧ Below w.heap.size w w' := by
  go_enter Try.func14, Try.ntmps14
  go_wp2_with fail
  refine (plain_empt a0 a1 a2 a3 _ f1 f2 f4 f5).mono ?_
  rintro e w' ⟨rfl, rfl⟩
  go_wp2
  go_ret
  exact ⟨by first | rfl | (simp; done), by repeat (first | exact Below.refl _ _ | (refine below_alloc ?_ _))⟩
theorem may_spent_no (a0 a1 a2 a3 : Int) (w : World) (f1 : (a0 == 1) = false) (f2 : (a0 == 2) = false) (f4 : (a0 == 4) = false) (f5 : (a0 == 5) = true) (d0 : decide (5 < a0) = false) (d1 : decide (4 ≤ a1) = false) (d3 : decide (64 ≤ a3) = false) (d2 : decide (3 < a2) = false) (z2 : (a2 == 0) = true) :
    Calls Try.prog 14 #[.agg #[.int .u8 a0, .int .u8 a1, .int .u8 a2, .int .u8 a3]] w fun e w' => e = .returned (.bool false) ∧ Below w.heap.size w w' := by
  go_enter Try.func14, Try.ntmps14
  go_wp2
  go_ret
  exact ⟨rfl, (Below.refl _ _).alloc (Nat.le_refl _) _⟩
theorem may_spent (a0 a1 a2 a3 : Int) (w : World) (f1 : (a0 == 1) = false) (f2 : (a0 == 2) = false) (f4 : (a0 == 4) = false) (f5 : (a0 == 5) = true) (d0 : decide (5 < a0) = false) (d1 : decide (4 ≤ a1) = false) (d3 : decide (64 ≤ a3) = false) (d2 : decide (3 < a2) = false) (z2 : (a2 == 0) = false) :
    Calls Try.prog 14 #[.agg #[.int .u8 a0, .int .u8 a1, .int .u8 a2, .int .u8 a3]] w fun e w' => e = .returned (.bool (a1 == 0 && ((0 : Int) == 0 && (0 : Int) == 0))) ∧ Below w.heap.size w w' := by
  go_enter Try.func14, Try.ntmps14
  go_wp2_with fail
  refine (plain_spent a0 a1 a2 a3 _ f1 f2 f4 f5).mono ?_
  rintro e w' ⟨rfl, rfl⟩
  go_wp2
  go_ret
  exact ⟨by first | rfl | (simp; done), by repeat (first | exact Below.refl _ _ | (refine below_alloc ?_ _))⟩
theorem may_other (a0 a1 a2 a3 : Int) (w : World) (f1 : (a0 == 1) = false) (f2 : (a0 == 2) = false) (f4 : (a0 == 4) = false) (f5 : (a0 == 5) = false) (d0 : decide (5 < a0) = false) (d1 : decide (4 ≤ a1) = false) (d3 : decide (64 ≤ a3) = false) (d2 : decide (3 < a2) = false)  :
    Calls Try.prog 14 #[.agg #[.int .u8 a0, .int .u8 a1, .int .u8 a2, .int .u8 a3]] w fun e w' => e = .returned (.bool (a1 == 0 && (a2 == 0 && a3 == 0))) ∧ Below w.heap.size w w' := by
  go_enter Try.func14, Try.ntmps14
  go_wp2_with fail
  refine (plain_other a0 a1 a2 a3 _ f1 f2 f4 f5).mono ?_
  rintro e w' ⟨rfl, rfl⟩
  go_wp2
  go_ret
  exact ⟨by first | rfl | (simp; done), by repeat (first | exact Below.refl _ _ | (refine below_alloc ?_ _))⟩
def mayp (a0 a1 a2 a3 : Int) : Bool :=
  if 5 < a0 ∨ 4 ≤ a1 ∨ 64 ≤ a3 ∨ 3 < a2 then false else if (a0 = 2 ∨ a0 = 5) ∧ a2 = 0 then false else
    (a0 == 1 || a1 == 0) && ((a0 == 2 || (a0 == 5 || a2 == 0)) && (a0 == 1 || (a0 == 2 || (a0 == 4 || (a0 == 5 || a3 == 0)))))
theorem may_any (a0 a1 a2 a3 : Int) (w : World) :
    Calls Try.prog 14 #[.agg #[.int .u8 a0, .int .u8 a1, .int .u8 a2, .int .u8 a3]] w fun e w' => e = .returned (.bool (mayp a0 a1 a2 a3)) ∧ Below w.heap.size w w' := by
  unfold mayp
  by_cases h : 5 < a0 ∨ 4 ≤ a1 ∨ 64 ≤ a3 ∨ 3 < a2
  · rw [if_pos h]; exact may_wide a0 a1 a2 a3 w h
  rw [if_neg h]
  have d0 : decide (5 < a0) = false := decide_eq_false (by omega)
  have d1 : decide (4 ≤ a1) = false := decide_eq_false (by omega)
  have d3 : decide (64 ≤ a3) = false := decide_eq_false (by omega)
  have d2 : decide (3 < a2) = false := decide_eq_false (by omega)
  by_cases e1 : a0 = 1
  · subst e1
    rw [if_neg (by omega)]
    have := may_small 1 a1 a2 a3 w rfl rfl rfl rfl d0 d1 d3 d2
    simpa using this
  by_cases e2 : a0 = 2
  · subst e2
    by_cases z : a2 = 0
    · rw [if_pos ⟨.inl rfl, z⟩]
      exact may_head_no 2 a1 a2 a3 w rfl rfl rfl rfl d0 d1 d3 d2 (beq_iff_eq.mpr z)
    · rw [if_neg (fun c => z c.2)]
      have := may_head 2 a1 a2 a3 w rfl rfl rfl rfl d0 d1 d3 d2 (beq_eq_false_iff_ne.mpr z)
      simpa using this
  by_cases e4 : a0 = 4
  · subst e4
    rw [if_neg (by omega)]
    have := may_empt 4 a1 a2 a3 w rfl rfl rfl rfl d0 d1 d3 d2
    simpa using this
  by_cases e5 : a0 = 5
  · subst e5
    by_cases z : a2 = 0
    · rw [if_pos ⟨.inr rfl, z⟩]
      exact may_spent_no 5 a1 a2 a3 w rfl rfl rfl rfl d0 d1 d3 d2 (beq_iff_eq.mpr z)
    · rw [if_neg (fun c => z c.2)]
      have := may_spent 5 a1 a2 a3 w rfl rfl rfl rfl d0 d1 d3 d2 (beq_eq_false_iff_ne.mpr z)
      simpa using this
  rw [if_neg (by omega)]
  have f1 : (a0 == 1) = false := beq_eq_false_iff_ne.mpr e1
  have f2 : (a0 == 2) = false := beq_eq_false_iff_ne.mpr e2
  have f4 : (a0 == 4) = false := beq_eq_false_iff_ne.mpr e4
  have f5 : (a0 == 5) = false := beq_eq_false_iff_ne.mpr e5
  rw [f1, f2, f4, f5]
  exact may_other a0 a1 a2 a3 w f1 f2 f4 f5 d0 d1 d3 d2
theorem mayp_bd {a0 a1 a2 a3 : Int} (h : mayp a0 a1 a2 a3 = true) : a0 ≤ 5 ∧ a1 < 4 ∧ a3 < 64 ∧ a2 ≤ 3 := by
  unfold mayp at h
  by_cases c : 5 < a0 ∨ 4 ≤ a1 ∨ 64 ≤ a3 ∨ 3 < a2
  · rw [if_pos c] at h; cases h
  · omega
theorem put_no (a0 a1 a2 a3 : Int) (w : World) (hm : ∀ w, Calls Try.prog 14 #[.agg #[.int .u8 a0, .int .u8 a1, .int .u8 a2, .int .u8 a3]] w fun e w' => e = .returned (.bool false) ∧ Below w.heap.size w w') :
    Calls Try.prog 6 #[.agg #[.int .u8 a0, .int .u8 a1, .int .u8 a2, .int .u8 a3]] w fun e w' => e = .returned (.tuple #[.int .u64 0, .int .i64 2]) ∧ Below w.heap.size w w' := by
  have HM := Aside0.mk hm
  clear hm
  go_enter Try.func6, Try.ntmps6
  go_wp2_with (first | (go_at_call 14; (with_reducible refine (HM.out _).mono ?_); rintro e w' ⟨rfl, hb⟩))
  go_ret2
  exact ⟨rfl, ((Below.refl _ _).alloc (Nat.le_refl _) _).trans (hb.mono (by simp))⟩
set_option maxHeartbeats 2000000 in
theorem put_yes (a0 a1 a2 a3 : Int) (w : World) (hm : ∀ w, Calls Try.prog 14 #[.agg #[.int .u8 a0, .int .u8 a1, .int .u8 a2, .int .u8 a3]] w fun e w' => e = .returned (.bool true) ∧ Below w.heap.size w w') (y1 y2 y3 : Int)
    (e1 : bits BinOp.or IntKind.u64 (IntKind.u64.wrap a0) (IntKind.u64.wrap (IntKind.u64.wrap a1 * 8)) = y1) (e2 : bits BinOp.or IntKind.u64 y1 (IntKind.u64.wrap (IntKind.u64.wrap a2 * 32)) = y2) (e3 : bits BinOp.or IntKind.u64 y2 (IntKind.u64.wrap (IntKind.u64.wrap a3 * 128)) = y3) :
    Calls Try.prog 6 #[.agg #[.int .u8 a0, .int .u8 a1, .int .u8 a2, .int .u8 a3]] w fun e w' => e = .returned (.tuple #[.int .u64 y3, .int .i64 0]) ∧ Below w.heap.size w w' := by
  have HM := Aside0.mk hm
  have E1 := Aside0.mk e1
  have E2 := Aside0.mk e2
  have E3 := Aside0.mk e3
  clear hm e1 e2 e3
  go_enter Try.func6, Try.ntmps6
  go_wp2_with fail
  refine (HM.out _).mono ?_
  rintro e w' ⟨rfl, hb⟩
  have hc0 : w'.cell? ⟨w.heap.size, 0, none⟩ = some (.int .u8 a0) := by rw [hb.cell (p := ⟨w.heap.size, 0, none⟩) (by simp)]; go_simp
  have hc1 : w'.cell? ⟨w.heap.size, 1, none⟩ = some (.int .u8 a1) := by rw [hb.cell (p := ⟨w.heap.size, 1, none⟩) (by simp)]; go_simp
  have hc2 : w'.cell? ⟨w.heap.size, 2, none⟩ = some (.int .u8 a2) := by rw [hb.cell (p := ⟨w.heap.size, 2, none⟩) (by simp)]; go_simp
  have hc3 : w'.cell? ⟨w.heap.size, 3, none⟩ = some (.int .u8 a3) := by rw [hb.cell (p := ⟨w.heap.size, 3, none⟩) (by simp)]; go_simp
  go_wp2
  go_ret2
  exact ⟨by rw [← E3.out, ← E2.out, ← E1.out]; rfl, ((Below.refl _ _).alloc (Nat.le_refl _) _).trans (hb.mono (by simp))⟩
theorem wrap_u64_at (n : Int) (h0 : 0 ≤ n) (h1 : n < 18446744073709551616) : IntKind.u64.wrap n = n := by
  rw [IntKind.wrap_u64]; omega
theorem or_nat (h l b i j : Nat) (hij : i ≤ j) (hl : l < 2 ^ i) (hb : b < 2 ^ (j - i)) : (2 ^ j * h + l) ||| (2 ^ i * b) = 2 ^ j * h + l + 2 ^ i * b := by
  have hlj : l < 2 ^ j := Nat.lt_of_lt_of_le hl (Nat.pow_le_pow_right (by decide) hij)
  have e1 : 2 ^ j * h + l = 2 ^ j * h ||| l := Nat.two_pow_add_eq_or_of_lt hlj h
  have e2 : 2 ^ i * b + l = 2 ^ i * b ||| l := Nat.two_pow_add_eq_or_of_lt hl b
  have hs : 2 ^ i * b + l < 2 ^ j := by
    have e : 2 ^ j = 2 ^ i * 2 ^ (j - i) := by rw [← Nat.pow_add]; congr 1; omega
    have : 2 ^ i * (b + 1) ≤ 2 ^ i * 2 ^ (j - i) := Nat.mul_le_mul_left _ hb
    rw [Nat.mul_add] at this
    omega
  rw [e1, Nat.or_assoc, Nat.or_comm l, ← e2, ← Nat.two_pow_add_eq_or_of_lt hs h]
  omega
theorem or_int (x n : Int) (i j : Nat) (hij : i ≤ j) (hx : 0 ≤ x) (hx1 : x < 18446744073709551616) (hl : x % 2 ^ j < 2 ^ i) (hn : 0 ≤ n) (hb : n < 2 ^ (j - i)) (hy : n * 2 ^ i < 18446744073709551616) :
    bits .or .u64 x (n * 2 ^ i) = x + n * 2 ^ i := by
  obtain ⟨a, rfl⟩ := Int.eq_ofNat_of_zero_le hx
  obtain ⟨b, rfl⟩ := Int.eq_ofNat_of_zero_le hn
  have hl' : a % 2 ^ j < 2 ^ i := by exact_mod_cast hl
  have hb' : b < 2 ^ (j - i) := by exact_mod_cast hb
  have ec : ((b : Int) * 2 ^ i) = ((b * 2 ^ i : Nat) : Int) := by simp
  rw [ec] at hy ⊢
  have hm := or_nat (a / 2 ^ j) (a % 2 ^ j) b i j hij hl' hb'
  rw [Nat.div_add_mod, Nat.mul_comm (2 ^ i) b] at hm
  generalize b * 2 ^ i = m at hy hm ⊢
  have w64 : ∀ n : Int, 0 ≤ n → n < 2 ^ 64 → IntKind.u64.wrap n = n := fun n h0 h1 => wrap_u64_at n h0 (by omega)
  rw [(bits_nat .u64 64 (by decide) w64 a m (by omega) (by omega)).2, hm]
  simp
theorem and_int (x : Int) (i : Nat) (hi : i ≤ 64) (hx : 0 ≤ x) (hx1 : x < 18446744073709551616) : bits .and .u64 x (2 ^ i - 1) = x % 2 ^ i := by
  exact bits_mask .u64 64 (by decide) (fun n h0 h1 => wrap_u64_at n h0 (by omega)) i hi x hx (by omega)
theorem or_at (x n p q r : Int) (i j : Nat) (hij : i ≤ j) (hp : (2 : Int) ^ i = p) (hq : (2 : Int) ^ j = q) (hr : (2 : Int) ^ (j - i) = r) (hx : 0 ≤ x) (hx1 : x < 18446744073709551616) (hl : x % q < p) (hn : 0 ≤ n) (hb : n < r) (hy : n * p < 18446744073709551616) (hy0 : 0 ≤ n * p) (hn1 : n < 18446744073709551616) :
    bits .or .u64 x (IntKind.u64.wrap (IntKind.u64.wrap n * p)) = x + n * p := by
  subst hp hq hr
  rw [wrap_u64_at n hn hn1, wrap_u64_at _ hy0 hy]
  exact or_int x n i j hij hx hx1 hl hn hb hy
def wordp (a0 a1 a2 a3 : Int) : Int := a0 + 8 * a1 + 32 * a2 + 128 * a3
def putp (a0 a1 a2 a3 : Int) : Option (Int × Int) :=
  if mayp a0 a1 a2 a3 = true then (if 0 ≤ a0 ∧ 0 ≤ a1 ∧ 0 ≤ a2 ∧ 0 ≤ a3 then some (wordp a0 a1 a2 a3, 0) else none) else some (0, 2)
theorem put_any (a0 a1 a2 a3 r1 r2 : Int) (w : World) (h : putp a0 a1 a2 a3 = some (r1, r2)) :
    Calls Try.prog 6 #[.agg #[.int .u8 a0, .int .u8 a1, .int .u8 a2, .int .u8 a3]] w fun e w' => e = .returned (.tuple #[.int .u64 r1, .int .i64 r2]) ∧ Below w.heap.size w w' := by
  unfold putp at h
  by_cases hm : mayp a0 a1 a2 a3 = true
  · rw [if_pos hm] at h
    by_cases hb : 0 ≤ a0 ∧ 0 ≤ a1 ∧ 0 ≤ a2 ∧ 0 ≤ a3
    · rw [if_pos hb] at h
      simp only [Option.some.injEq, Prod.mk.injEq] at h
      obtain ⟨rfl, rfl⟩ := h
      obtain ⟨b0, b1, b3, b2⟩ := mayp_bd hm
      obtain ⟨z0, z1, z2, z3⟩ := hb
      have e1 := or_at a0 a1 8 32 4 3 5 (by decide) (by decide) (by decide) (by decide) (by omega) (by omega) (by omega) (by omega) (by omega) (by omega) (by omega) (by omega)
      have e2 := or_at (a0 + a1 * 8) a2 32 128 4 5 7 (by decide) (by decide) (by decide) (by decide) (by omega) (by omega) (by omega) (by omega) (by omega) (by omega) (by omega) (by omega)
      have e3 := or_at (a0 + a1 * 8 + a2 * 32) a3 128 8192 64 7 13 (by decide) (by decide) (by decide) (by decide) (by omega) (by omega) (by omega) (by omega) (by omega) (by omega) (by omega) (by omega)
      have hM : ∀ w, Calls Try.prog 14 #[.agg #[.int .u8 a0, .int .u8 a1, .int .u8 a2, .int .u8 a3]] w fun e w' => e = .returned (.bool true) ∧ Below w.heap.size w w' := fun w => by
        rw [← hm]; exact may_any a0 a1 a2 a3 w
      rw [← wrap_u64_at a0 z0 (by omega)] at e1
      have e0 : IntKind.u64.wrap a0 + a1 * 8 = a0 + a1 * 8 := by rw [wrap_u64_at a0 z0 (by omega)]
      rw [e0] at e1
      rw [show wordp a0 a1 a2 a3 = a0 + a1 * 8 + a2 * 32 + a3 * 128 by unfold wordp; omega]
      exact put_yes a0 a1 a2 a3 w hM _ _ _ e1 e2 e3
    · rw [if_neg hb] at h; cases h
  · rw [if_neg hm] at h
    simp only [Option.some.injEq, Prod.mk.injEq] at h
    obtain ⟨rfl, rfl⟩ := h
    have hf : mayp a0 a1 a2 a3 = false := by simpa using hm
    exact put_no a0 a1 a2 a3 w (fun w => by rw [← hf]; exact may_any a0 a1 a2 a3 w)
theorem part (x y m : Int) (i : Nat) (hi : i ≤ 64) (h0 : 0 ≤ y) (h1 : y < 18446744073709551616) (hm : (2 : Int) ^ i - 1 = m - 1) (hq : (2 : Int) ^ i = m) (hm2 : m ≤ 256) (hm3 : 0 < m) : bits BinOp.and IntKind.u64 y (m - 1) % 256 = y % m := by
  rw [← hm, and_int y i hi h0 h1, hq]
  have a := Int.emod_nonneg y (show m ≠ 0 by omega)
  have b := Int.emod_lt_of_pos y hm3
  omega
set_option maxHeartbeats 4000000 in
theorem take_no (x p q : Int) (w : World) (h0 : 0 ≤ x) (h1 : x < 18446744073709551616) (hp : putp (x % 8) (x / 8 % 4) (x / 32 % 4) (x / 128 % 64) = some (p, q)) (hn : ¬ q = 0 ∨ ¬ p = x) :
    Calls Try.prog 12 #[.int .u64 x] w fun e w' => e = .returned (.tuple #[.agg #[.int .u8 0, .int .u8 0, .int .u8 0, .int .u8 0], .int .i64 3]) ∧ Below w.heap.size w w' := by
  have g0 : bits BinOp.and IntKind.u64 x 7 % 256 = x % 8 := part x x 8 3 (by decide) h0 h1 (by decide) (by decide) (by decide) (by decide)
  have g1 : bits BinOp.and IntKind.u64 (x / 8) 3 % 256 = x / 8 % 4 := part x (x / 8) 4 2 (by decide) (by omega) (by omega) (by decide) (by decide) (by decide) (by decide)
  have g2 : bits BinOp.and IntKind.u64 (x / 32) 3 % 256 = x / 32 % 4 := part x (x / 32) 4 2 (by decide) (by omega) (by omega) (by decide) (by decide) (by decide) (by decide)
  have g3 : bits BinOp.and IntKind.u64 (x / 128) 63 % 256 = x / 128 % 64 := part x (x / 128) 64 6 (by decide) (by omega) (by omega) (by decide) (by decide) (by decide) (by decide)
  have HP := Aside0.mk hp
  have HN := Aside0.mk hn
  clear hp h0 h1 hn
  go_enter Try.func12, Try.ntmps12
  go_wp2_with fail
  refine (put_any _ _ _ _ p q _ HP.out).mono ?_
  rintro e w3 ⟨rfl, hb⟩
  have BR : w3.heap[w.heap.size]? = some (.cells #[.int .u8 0, .int .u8 0, .int .u8 0, .int .u8 0] 28 (0, 0)) := blk_below (blk_alloc (blk_new _ _) _) hb
  have cr0 : w3.cell? ⟨w.heap.size, 0, none⟩ = some (.int .u8 0) := (blk_cell BR 0).trans rfl
  have fr0 : w3.frozen? ⟨w.heap.size, 0, none⟩ = false := blk_frozen BR 0
  have cr1 : w3.cell? ⟨w.heap.size, 1, none⟩ = some (.int .u8 0) := (blk_cell BR 1).trans rfl
  have fr1 : w3.frozen? ⟨w.heap.size, 1, none⟩ = false := blk_frozen BR 1
  have cr2 : w3.cell? ⟨w.heap.size, 2, none⟩ = some (.int .u8 0) := (blk_cell BR 2).trans rfl
  have fr2 : w3.frozen? ⟨w.heap.size, 2, none⟩ = false := blk_frozen BR 2
  have cr3 : w3.cell? ⟨w.heap.size, 3, none⟩ = some (.int .u8 0) := (blk_cell BR 3).trans rfl
  have fr3 : w3.frozen? ⟨w.heap.size, 3, none⟩ = false := blk_frozen BR 3
  have ch0 : w3.cell? ⟨w.heap.size + 1, 0, none⟩ = some (.int .u8 (x % 8)) := by rw [hb.cell (p := ⟨w.heap.size + 1, 0, none⟩) (by simp)]; go_simp
  have ch1 : w3.cell? ⟨w.heap.size + 1, 1, none⟩ = some (.int .u8 (x / 8 % 4)) := by rw [hb.cell (p := ⟨w.heap.size + 1, 1, none⟩) (by simp)]; go_simp
  have ch2 : w3.cell? ⟨w.heap.size + 1, 2, none⟩ = some (.int .u8 (x / 32 % 4)) := by rw [hb.cell (p := ⟨w.heap.size + 1, 2, none⟩) (by simp)]; go_simp
  have ch3 : w3.cell? ⟨w.heap.size + 1, 3, none⟩ = some (.int .u8 (x / 128 % 64)) := by rw [hb.cell (p := ⟨w.heap.size + 1, 3, none⟩) (by simp)]; go_simp
  have hz : w.heap.size + 1 < w3.heap.size := by have := hb.size; simp at this; omega
  have HB : Below w.heap.size w w3 := (below_alloc (below_alloc (Below.refl _ _) _) _).trans (hb.mono (by simp; omega))
  have BB := Aside0.mk BR
  have HBB := Aside0.mk HB
  clear BR HB g0 g1 g2 g3
  by_cases hq : q = 0
  · have hq1 : (q != 0) = false := bne_eq_false_iff_eq.mpr hq
    have hp1 : (p != x) = true := bne_iff_ne.mpr (by rcases HN.out with h | h; exact absurd hq h; exact h)
    clear hq
    go_wp2
    refine bodyPost_ret (results_ct rfl _ _ w.heap.size 28 #[.int .u8 0, .int .u8 0, .int .u8 0, .int .u8 0] (0, 0) _ rfl (blk_put (blk_put (blk_put (blk_put BB.out 0 _ rfl) 1 _ rfl) 2 _ rfl) 3 _ rfl) Try.underlying28 rfl (by kernel_rfl)) rfl ⟨rfl, (below_set (below_set (below_set (below_set HBB.out (Nat.le_refl _)) (Nat.le_refl _)) (Nat.le_refl _)) (Nat.le_refl _))⟩
  · have hq1 : (q != 0) = true := bne_iff_ne.mpr hq
    clear hq
    go_wp2
    refine bodyPost_ret (results_ct rfl _ _ w.heap.size 28 #[.int .u8 0, .int .u8 0, .int .u8 0, .int .u8 0] (0, 0) _ rfl (blk_put (blk_put (blk_put (blk_put BB.out 0 _ rfl) 1 _ rfl) 2 _ rfl) 3 _ rfl) Try.underlying28 rfl (by kernel_rfl)) rfl ⟨rfl, (below_set (below_set (below_set (below_set HBB.out (Nat.le_refl _)) (Nat.le_refl _)) (Nat.le_refl _)) (Nat.le_refl _))⟩
set_option maxHeartbeats 4000000 in
theorem take_yes (x : Int) (w : World) (h0 : 0 ≤ x) (h1 : x < 18446744073709551616) (hp : putp (x % 8) (x / 8 % 4) (x / 32 % 4) (x / 128 % 64) = some (x, 0)) :
    Calls Try.prog 12 #[.int .u64 x] w fun e w' => e = .returned (.tuple #[.agg #[.int .u8 (x % 8), .int .u8 (x / 8 % 4), .int .u8 (x / 32 % 4), .int .u8 (x / 128 % 64)], .int .i64 0]) ∧ Below w.heap.size w w' := by
  have g0 : bits BinOp.and IntKind.u64 x 7 % 256 = x % 8 := part x x 8 3 (by decide) h0 h1 (by decide) (by decide) (by decide) (by decide)
  have g1 : bits BinOp.and IntKind.u64 (x / 8) 3 % 256 = x / 8 % 4 := part x (x / 8) 4 2 (by decide) (by omega) (by omega) (by decide) (by decide) (by decide) (by decide)
  have g2 : bits BinOp.and IntKind.u64 (x / 32) 3 % 256 = x / 32 % 4 := part x (x / 32) 4 2 (by decide) (by omega) (by omega) (by decide) (by decide) (by decide) (by decide)
  have g3 : bits BinOp.and IntKind.u64 (x / 128) 63 % 256 = x / 128 % 64 := part x (x / 128) 64 6 (by decide) (by omega) (by omega) (by decide) (by decide) (by decide) (by decide)
  have HP := Aside0.mk hp
  clear hp h0 h1
  go_enter Try.func12, Try.ntmps12
  go_wp2_with fail
  refine (put_any _ _ _ _ x 0 _ HP.out).mono ?_
  rintro e w3 ⟨rfl, hb⟩
  have BR : w3.heap[w.heap.size]? = some (.cells #[.int .u8 0, .int .u8 0, .int .u8 0, .int .u8 0] 28 (0, 0)) := blk_below (blk_alloc (blk_new _ _) _) hb
  have cr0 : w3.cell? ⟨w.heap.size, 0, none⟩ = some (.int .u8 0) := (blk_cell BR 0).trans rfl
  have fr0 : w3.frozen? ⟨w.heap.size, 0, none⟩ = false := blk_frozen BR 0
  have cr1 : w3.cell? ⟨w.heap.size, 1, none⟩ = some (.int .u8 0) := (blk_cell BR 1).trans rfl
  have fr1 : w3.frozen? ⟨w.heap.size, 1, none⟩ = false := blk_frozen BR 1
  have cr2 : w3.cell? ⟨w.heap.size, 2, none⟩ = some (.int .u8 0) := (blk_cell BR 2).trans rfl
  have fr2 : w3.frozen? ⟨w.heap.size, 2, none⟩ = false := blk_frozen BR 2
  have cr3 : w3.cell? ⟨w.heap.size, 3, none⟩ = some (.int .u8 0) := (blk_cell BR 3).trans rfl
  have fr3 : w3.frozen? ⟨w.heap.size, 3, none⟩ = false := blk_frozen BR 3
  have ch0 : w3.cell? ⟨w.heap.size + 1, 0, none⟩ = some (.int .u8 (x % 8)) := by rw [hb.cell (p := ⟨w.heap.size + 1, 0, none⟩) (by simp)]; go_simp
  have ch1 : w3.cell? ⟨w.heap.size + 1, 1, none⟩ = some (.int .u8 (x / 8 % 4)) := by rw [hb.cell (p := ⟨w.heap.size + 1, 1, none⟩) (by simp)]; go_simp
  have ch2 : w3.cell? ⟨w.heap.size + 1, 2, none⟩ = some (.int .u8 (x / 32 % 4)) := by rw [hb.cell (p := ⟨w.heap.size + 1, 2, none⟩) (by simp)]; go_simp
  have ch3 : w3.cell? ⟨w.heap.size + 1, 3, none⟩ = some (.int .u8 (x / 128 % 64)) := by rw [hb.cell (p := ⟨w.heap.size + 1, 3, none⟩) (by simp)]; go_simp
  have hz : w.heap.size + 1 < w3.heap.size := by have := hb.size; simp at this; omega
  have HB : Below w.heap.size w w3 := (below_alloc (below_alloc (Below.refl _ _) _) _).trans (hb.mono (by simp; omega))
  have BB := Aside0.mk BR
  have HBB := Aside0.mk HB
  clear BR HB g0 g1 g2 g3
  go_wp2
  refine bodyPost_ret (results_ct rfl _ _ w.heap.size 28 #[.int .u8 (x % 8), .int .u8 (x / 8 % 4), .int .u8 (x / 32 % 4), .int .u8 (x / 128 % 64)] (0, 0) _ rfl (blk_put (blk_put (blk_put (blk_put BB.out 0 _ rfl) 1 _ rfl) 2 _ rfl) 3 _ rfl) Try.underlying28 rfl (by kernel_rfl)) rfl ⟨rfl, (below_set (below_set (below_set (below_set HBB.out (Nat.le_refl _)) (Nat.le_refl _)) (Nat.le_refl _)) (Nat.le_refl _))⟩
def takep (x : Int) : Option (Int × Int × Int × Int × Int) :=
  if 0 ≤ x ∧ x < 18446744073709551616 then (putp (x % 8) (x / 8 % 4) (x / 32 % 4) (x / 128 % 64)).bind fun r => if r.2 = 0 ∧ r.1 = x then some (x % 8, x / 8 % 4, x / 32 % 4, x / 128 % 64, 0) else some (0, 0, 0, 0, 3) else none
theorem take_any (x r1 r2 r3 r4 r5 : Int) (w : World) (h : takep x = some (r1, r2, r3, r4, r5)) :
    Calls Try.prog 12 #[.int .u64 x] w fun e w' => e = .returned (.tuple #[.agg #[.int .u8 r1, .int .u8 r2, .int .u8 r3, .int .u8 r4], .int .i64 r5]) ∧ Below w.heap.size w w' := by
  unfold takep at h
  by_cases hb : 0 ≤ x ∧ x < 18446744073709551616
  · rw [if_pos hb] at h
    obtain ⟨⟨p, q⟩, hp, h⟩ := Option.bind_eq_some_iff.mp h
    by_cases c : q = 0 ∧ p = x
    · have h2 := (if_pos c).symm.trans h
      simp only [Option.some.injEq, Prod.mk.injEq] at h2
      obtain ⟨rfl, rfl, rfl, rfl, rfl⟩ := h2
      obtain ⟨rfl, rfl⟩ := c
      exact take_yes _ w hb.1 hb.2 hp
    · have h2 := (if_neg c).symm.trans h
      simp only [Option.some.injEq, Prod.mk.injEq] at h2
      obtain ⟨rfl, rfl, rfl, rfl, rfl⟩ := h2
      exact take_no x p q w hb.1 hb.2 hp (by omega)
  · rw [if_neg hb] at h; cases h
end Go.Proofs.Ytdnljkjmcidlmaa.Hand
