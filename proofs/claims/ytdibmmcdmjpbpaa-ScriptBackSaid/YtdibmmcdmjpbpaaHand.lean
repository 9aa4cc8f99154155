/- Proved here: what 'Args' and 'May' of package script answer; no condition but those that each theorem writes out. -/
import Derived.Test.YtdibmmcdmjpbpaaWMore
import Derived.Test.YtdibmmcdmjpbpaaProg
import Derived.WalkKit
import Derived.Below
import Derived.KernelRfl
import Derived.Deep.QuietTactic
import Derived.BigQuiet
import Derived.RegionTactic
import Derived.LoopTactic
import Derived.LoopN
import Derived.Lib.Hide
import Derived.Outline
namespace Go.Proofs.Ytdibmmcdmjpbpaa.Hand
open Go.RowKit Go.Proofs.YtdibmmcdmjpbpaaW.PrintWords Go.Proofs.YtdibmmcdmjpbpaaW.PrintLast Go.Proofs.YtdibmmcdmjpbpaaW.PrintMore
set_option linter.unusedVariables false
set_option linter.unusedSimpArgs false
def argsp (d : Int) : Int := if d = 1 ∨ d = 2 ∨ d = 3 ∨ d = 5 then 3 else if d = 4 ∨ d = 6 ∨ d = 7 ∨ d = 8 then 2 else if d = 9 ∨ d = 10 ∨ d = 11 then 1 else 0
theorem args_1 (w : World) : Calls Try.prog 12 #[.int .u8 1] w fun e w' => e = .returned (.int .i64 3) ∧ w = w' := by
  go_enter Try.func12, Try.ntmps12
  go_wp2
  go_ret
  exact ⟨rfl, rfl⟩
theorem args_2 (w : World) : Calls Try.prog 12 #[.int .u8 2] w fun e w' => e = .returned (.int .i64 3) ∧ w = w' := by
  go_enter Try.func12, Try.ntmps12
  go_wp2
  go_ret
  exact ⟨rfl, rfl⟩
theorem args_3 (w : World) : Calls Try.prog 12 #[.int .u8 3] w fun e w' => e = .returned (.int .i64 3) ∧ w = w' := by
  go_enter Try.func12, Try.ntmps12
  go_wp2
  go_ret
  exact ⟨rfl, rfl⟩
theorem args_4 (w : World) : Calls Try.prog 12 #[.int .u8 4] w fun e w' => e = .returned (.int .i64 2) ∧ w = w' := by
  go_enter Try.func12, Try.ntmps12
  go_wp2
  go_ret
  exact ⟨rfl, rfl⟩
theorem args_5 (w : World) : Calls Try.prog 12 #[.int .u8 5] w fun e w' => e = .returned (.int .i64 3) ∧ w = w' := by
  go_enter Try.func12, Try.ntmps12
  go_wp2
  go_ret
  exact ⟨rfl, rfl⟩
theorem args_6 (w : World) : Calls Try.prog 12 #[.int .u8 6] w fun e w' => e = .returned (.int .i64 2) ∧ w = w' := by
  go_enter Try.func12, Try.ntmps12
  go_wp2
  go_ret
  exact ⟨rfl, rfl⟩
theorem args_7 (w : World) : Calls Try.prog 12 #[.int .u8 7] w fun e w' => e = .returned (.int .i64 2) ∧ w = w' := by
  go_enter Try.func12, Try.ntmps12
  go_wp2
  go_ret
  exact ⟨rfl, rfl⟩
theorem args_8 (w : World) : Calls Try.prog 12 #[.int .u8 8] w fun e w' => e = .returned (.int .i64 2) ∧ w = w' := by
  go_enter Try.func12, Try.ntmps12
  go_wp2
  go_ret
  exact ⟨rfl, rfl⟩
theorem args_9 (w : World) : Calls Try.prog 12 #[.int .u8 9] w fun e w' => e = .returned (.int .i64 1) ∧ w = w' := by
  go_enter Try.func12, Try.ntmps12
  go_wp2
  go_ret
  exact ⟨rfl, rfl⟩
theorem args_10 (w : World) : Calls Try.prog 12 #[.int .u8 10] w fun e w' => e = .returned (.int .i64 1) ∧ w = w' := by
  go_enter Try.func12, Try.ntmps12
  go_wp2
  go_ret
  exact ⟨rfl, rfl⟩
theorem args_11 (w : World) : Calls Try.prog 12 #[.int .u8 11] w fun e w' => e = .returned (.int .i64 1) ∧ w = w' := by
  go_enter Try.func12, Try.ntmps12
  go_wp2
  go_ret
  exact ⟨rfl, rfl⟩
theorem args_other (d : Int) (w : World) (f1 : (d == 1) = false) (f2 : (d == 2) = false) (f3 : (d == 3) = false) (f4 : (d == 4) = false) (f5 : (d == 5) = false) (f6 : (d == 6) = false) (f7 : (d == 7) = false) (f8 : (d == 8) = false) (f9 : (d == 9) = false) (f10 : (d == 10) = false) (f11 : (d == 11) = false) : Calls Try.prog 12 #[.int .u8 d] w fun e w' => e = .returned (.int .i64 0) ∧ w = w' := by
  go_enter Try.func12, Try.ntmps12
  go_wp2
  go_ret
  exact ⟨rfl, rfl⟩
theorem args_any (d : Int) (w : World) : Calls Try.prog 12 #[.int .u8 d] w fun e w' => e = .returned (.int .i64 (argsp d)) ∧ w = w' := by
  by_cases h1 : d = 1
  · subst h1; exact args_1 w
  by_cases h2 : d = 2
  · subst h2; exact args_2 w
  by_cases h3 : d = 3
  · subst h3; exact args_3 w
  by_cases h4 : d = 4
  · subst h4; exact args_4 w
  by_cases h5 : d = 5
  · subst h5; exact args_5 w
  by_cases h6 : d = 6
  · subst h6; exact args_6 w
  by_cases h7 : d = 7
  · subst h7; exact args_7 w
  by_cases h8 : d = 8
  · subst h8; exact args_8 w
  by_cases h9 : d = 9
  · subst h9; exact args_9 w
  by_cases h10 : d = 10
  · subst h10; exact args_10 w
  by_cases h11 : d = 11
  · subst h11; exact args_11 w
  have e : argsp d = 0 := by unfold argsp; rw [if_neg (by omega), if_neg (by omega), if_neg (by omega)]
  rw [e]
  exact args_other d w (beq_eq_false_iff_ne.mpr h1) (beq_eq_false_iff_ne.mpr h2) (beq_eq_false_iff_ne.mpr h3) (beq_eq_false_iff_ne.mpr h4) (beq_eq_false_iff_ne.mpr h5) (beq_eq_false_iff_ne.mpr h6) (beq_eq_false_iff_ne.mpr h7) (beq_eq_false_iff_ne.mpr h8) (beq_eq_false_iff_ne.mpr h9) (beq_eq_false_iff_ne.mpr h10) (beq_eq_false_iff_ne.mpr h11)
theorem may_wide1 (a d x y z : Int) (w : World) (d1 : decide (13 < d) = true) :
    Calls Try.prog 8 #[.agg #[.int .u8 a, .int .u8 d, .int .u8 x, .int .u8 y, .int .u8 z]] w fun e w' => e = .returned (.bool false) ∧ Below w.heap.size w w' := by
  go_enter Try.func8, Try.ntmps8
  go_wp2
  go_ret
  exact ⟨rfl, (Below.refl _ _).alloc (Nat.le_refl _) _⟩
theorem may_wide2 (a d x y z : Int) (w : World) (d1 : decide (13 < d) = false) (d2 : (a == 255) = false) (d2n : (a != 255) = true) (d3 : decide (64 ≤ a) = true) :
    Calls Try.prog 8 #[.agg #[.int .u8 a, .int .u8 d, .int .u8 x, .int .u8 y, .int .u8 z]] w fun e w' => e = .returned (.bool false) ∧ Below w.heap.size w w' := by
  go_enter Try.func8, Try.ntmps8
  go_wp2
  go_ret
  exact ⟨rfl, (Below.refl _ _).alloc (Nat.le_refl _) _⟩
theorem may_mis_c (d x y z : Int) (w : World) (d1 : decide (13 < d) = false) (d4 : (d == 0) = false) (d4n : (d != 0) = true) (d5 : (d == 13) = false) (d5n : (d != 13) = true) :
    Calls Try.prog 8 #[.agg #[.int .u8 255, .int .u8 d, .int .u8 x, .int .u8 y, .int .u8 z]] w fun e w' => e = .returned (.bool false) ∧ Below w.heap.size w w' := by
  go_enter Try.func8, Try.ntmps8
  go_wp2
  go_ret
  exact ⟨rfl, (Below.refl _ _).alloc (Nat.le_refl _) _⟩
theorem may_mis_t (a x y z : Int) (w : World) (d2 : (a == 255) = false) (d2n : (a != 255) = true) (d3 : decide (64 ≤ a) = false) :
    Calls Try.prog 8 #[.agg #[.int .u8 a, .int .u8 13, .int .u8 x, .int .u8 y, .int .u8 z]] w fun e w' => e = .returned (.bool false) ∧ Below w.heap.size w w' := by
  go_enter Try.func8, Try.ntmps8
  go_wp2
  go_ret
  exact ⟨rfl, (Below.refl _ _).alloc (Nat.le_refl _) _⟩
set_option maxHeartbeats 1000000 in
theorem may_cz_0_f0 (x y z : Int) (w : World) (q0 : (x == 0) = false) (p0 : (x != 0) = true) :
    Calls Try.prog 8 #[.agg #[.int .u8 255, .int .u8 0, .int .u8 x, .int .u8 y, .int .u8 z]] w fun e w' => e = .returned (.bool false) ∧ Below w.heap.size w w' := by
  have HA : ∀ W, Calls Try.prog 12 #[.int .u8 0] W fun e w' => e = .returned (.int .i64 0) ∧ W = w' := fun W => args_any 0 W
  have i0 : ∀ w, (Instr.index 46 (.agg #[.int .u8 x, .int .u8 y, .int .u8 z]) (.int .i64 0)).run Try.prog w = .ok (.int .u8 x) w := fun _ => by kernel_rfl
  have i1 : ∀ w, (Instr.index 46 (.agg #[.int .u8 x, .int .u8 y, .int .u8 z]) (.int .i64 1)).run Try.prog w = .ok (.int .u8 y) w := fun _ => by kernel_rfl
  have i2 : ∀ w, (Instr.index 46 (.agg #[.int .u8 x, .int .u8 y, .int .u8 z]) (.int .i64 2)).run Try.prog w = .ok (.int .u8 z) w := fun _ => by kernel_rfl
  have H := Lib.hid HA
  clear HA
  go_enter Try.func8, Try.ntmps8
  go_wp2
  refine wp_loop_rounds 4 ?_
  rw [rounds_succ]
  go_wp2_with (first | (go_at_call 12; (with_reducible refine (H.out _).mono ?_); rintro e w' ⟨rfl, rfl⟩))
  go_ret
  exact ⟨rfl, (Below.refl _ _).alloc (Nat.le_refl _) _⟩
set_option maxHeartbeats 1000000 in
theorem may_cz_0_f1 (x y z : Int) (w : World) (q0 : (x == 0) = true) (p0 : (x != 0) = false) (q1 : (y == 0) = false) (p1 : (y != 0) = true) :
    Calls Try.prog 8 #[.agg #[.int .u8 255, .int .u8 0, .int .u8 x, .int .u8 y, .int .u8 z]] w fun e w' => e = .returned (.bool false) ∧ Below w.heap.size w w' := by
  have HA : ∀ W, Calls Try.prog 12 #[.int .u8 0] W fun e w' => e = .returned (.int .i64 0) ∧ W = w' := fun W => args_any 0 W
  have i0 : ∀ w, (Instr.index 46 (.agg #[.int .u8 x, .int .u8 y, .int .u8 z]) (.int .i64 0)).run Try.prog w = .ok (.int .u8 x) w := fun _ => by kernel_rfl
  have i1 : ∀ w, (Instr.index 46 (.agg #[.int .u8 x, .int .u8 y, .int .u8 z]) (.int .i64 1)).run Try.prog w = .ok (.int .u8 y) w := fun _ => by kernel_rfl
  have i2 : ∀ w, (Instr.index 46 (.agg #[.int .u8 x, .int .u8 y, .int .u8 z]) (.int .i64 2)).run Try.prog w = .ok (.int .u8 z) w := fun _ => by kernel_rfl
  have H := Lib.hid HA
  clear HA
  go_enter Try.func8, Try.ntmps8
  go_wp2
  refine wp_loop_rounds 4 ?_
  rw [rounds_succ]
  go_wp2_with (first | (go_at_call 12; (with_reducible refine (H.out _).mono ?_); rintro e w' ⟨rfl, rfl⟩))
  rw [rounds_succ]
  go_wp2_with (first | (go_at_call 12; (with_reducible refine (H.out _).mono ?_); rintro e w' ⟨rfl, rfl⟩))
  go_ret
  exact ⟨rfl, (Below.refl _ _).alloc (Nat.le_refl _) _⟩
set_option maxHeartbeats 1000000 in
theorem may_cz_0_f2 (x y z : Int) (w : World) (q0 : (x == 0) = true) (p0 : (x != 0) = false) (q1 : (y == 0) = true) (p1 : (y != 0) = false) (q2 : (z == 0) = false) (p2 : (z != 0) = true) :
    Calls Try.prog 8 #[.agg #[.int .u8 255, .int .u8 0, .int .u8 x, .int .u8 y, .int .u8 z]] w fun e w' => e = .returned (.bool false) ∧ Below w.heap.size w w' := by
  have HA : ∀ W, Calls Try.prog 12 #[.int .u8 0] W fun e w' => e = .returned (.int .i64 0) ∧ W = w' := fun W => args_any 0 W
  have i0 : ∀ w, (Instr.index 46 (.agg #[.int .u8 x, .int .u8 y, .int .u8 z]) (.int .i64 0)).run Try.prog w = .ok (.int .u8 x) w := fun _ => by kernel_rfl
  have i1 : ∀ w, (Instr.index 46 (.agg #[.int .u8 x, .int .u8 y, .int .u8 z]) (.int .i64 1)).run Try.prog w = .ok (.int .u8 y) w := fun _ => by kernel_rfl
  have i2 : ∀ w, (Instr.index 46 (.agg #[.int .u8 x, .int .u8 y, .int .u8 z]) (.int .i64 2)).run Try.prog w = .ok (.int .u8 z) w := fun _ => by kernel_rfl
  have H := Lib.hid HA
  clear HA
  go_enter Try.func8, Try.ntmps8
  go_wp2
  refine wp_loop_rounds 4 ?_
  rw [rounds_succ]
  go_wp2_with (first | (go_at_call 12; (with_reducible refine (H.out _).mono ?_); rintro e w' ⟨rfl, rfl⟩))
  rw [rounds_succ]
  go_wp2_with (first | (go_at_call 12; (with_reducible refine (H.out _).mono ?_); rintro e w' ⟨rfl, rfl⟩))
  rw [rounds_succ]
  go_wp2_with (first | (go_at_call 12; (with_reducible refine (H.out _).mono ?_); rintro e w' ⟨rfl, rfl⟩))
  go_ret
  exact ⟨rfl, (Below.refl _ _).alloc (Nat.le_refl _) _⟩
set_option maxHeartbeats 1000000 in
theorem may_cz_0_ok (x y z : Int) (w : World) (q0 : (x == 0) = true) (p0 : (x != 0) = false) (q1 : (y == 0) = true) (p1 : (y != 0) = false) (q2 : (z == 0) = true) (p2 : (z != 0) = false) :
    Calls Try.prog 8 #[.agg #[.int .u8 255, .int .u8 0, .int .u8 x, .int .u8 y, .int .u8 z]] w fun e w' => e = .returned (.bool true) ∧ Below w.heap.size w w' := by
  have HA : ∀ W, Calls Try.prog 12 #[.int .u8 0] W fun e w' => e = .returned (.int .i64 0) ∧ W = w' := fun W => args_any 0 W
  have i0 : ∀ w, (Instr.index 46 (.agg #[.int .u8 x, .int .u8 y, .int .u8 z]) (.int .i64 0)).run Try.prog w = .ok (.int .u8 x) w := fun _ => by kernel_rfl
  have i1 : ∀ w, (Instr.index 46 (.agg #[.int .u8 x, .int .u8 y, .int .u8 z]) (.int .i64 1)).run Try.prog w = .ok (.int .u8 y) w := fun _ => by kernel_rfl
  have i2 : ∀ w, (Instr.index 46 (.agg #[.int .u8 x, .int .u8 y, .int .u8 z]) (.int .i64 2)).run Try.prog w = .ok (.int .u8 z) w := fun _ => by kernel_rfl
  have H := Lib.hid HA
  clear HA
  go_enter Try.func8, Try.ntmps8
  go_wp2
  refine wp_loop_rounds 4 ?_
  rw [rounds_succ]
  go_wp2_with (first | (go_at_call 12; (with_reducible refine (H.out _).mono ?_); rintro e w' ⟨rfl, rfl⟩))
  rw [rounds_succ]
  go_wp2_with (first | (go_at_call 12; (with_reducible refine (H.out _).mono ?_); rintro e w' ⟨rfl, rfl⟩))
  rw [rounds_succ]
  go_wp2_with (first | (go_at_call 12; (with_reducible refine (H.out _).mono ?_); rintro e w' ⟨rfl, rfl⟩))
  rw [rounds_succ]
  go_wp2
  go_ret
  exact ⟨rfl, (Below.refl _ _).alloc (Nat.le_refl _) _⟩
set_option maxHeartbeats 1000000 in
theorem may_cc_0_f0 (x y z : Int) (w : World) (q0 : (x == 0) = false) (p0 : (x != 0) = true) :
    Calls Try.prog 8 #[.agg #[.int .u8 255, .int .u8 13, .int .u8 x, .int .u8 y, .int .u8 z]] w fun e w' => e = .returned (.bool false) ∧ Below w.heap.size w w' := by
  have HA : ∀ W, Calls Try.prog 12 #[.int .u8 13] W fun e w' => e = .returned (.int .i64 0) ∧ W = w' := fun W => args_any 13 W
  have i0 : ∀ w, (Instr.index 46 (.agg #[.int .u8 x, .int .u8 y, .int .u8 z]) (.int .i64 0)).run Try.prog w = .ok (.int .u8 x) w := fun _ => by kernel_rfl
  have i1 : ∀ w, (Instr.index 46 (.agg #[.int .u8 x, .int .u8 y, .int .u8 z]) (.int .i64 1)).run Try.prog w = .ok (.int .u8 y) w := fun _ => by kernel_rfl
  have i2 : ∀ w, (Instr.index 46 (.agg #[.int .u8 x, .int .u8 y, .int .u8 z]) (.int .i64 2)).run Try.prog w = .ok (.int .u8 z) w := fun _ => by kernel_rfl
  have H := Lib.hid HA
  clear HA
  go_enter Try.func8, Try.ntmps8
  go_wp2
  refine wp_loop_rounds 4 ?_
  rw [rounds_succ]
  go_wp2_with (first | (go_at_call 12; (with_reducible refine (H.out _).mono ?_); rintro e w' ⟨rfl, rfl⟩))
  go_ret
  exact ⟨rfl, (Below.refl _ _).alloc (Nat.le_refl _) _⟩
set_option maxHeartbeats 1000000 in
theorem may_cc_0_f1 (x y z : Int) (w : World) (q0 : (x == 0) = true) (p0 : (x != 0) = false) (q1 : (y == 0) = false) (p1 : (y != 0) = true) :
    Calls Try.prog 8 #[.agg #[.int .u8 255, .int .u8 13, .int .u8 x, .int .u8 y, .int .u8 z]] w fun e w' => e = .returned (.bool false) ∧ Below w.heap.size w w' := by
  have HA : ∀ W, Calls Try.prog 12 #[.int .u8 13] W fun e w' => e = .returned (.int .i64 0) ∧ W = w' := fun W => args_any 13 W
  have i0 : ∀ w, (Instr.index 46 (.agg #[.int .u8 x, .int .u8 y, .int .u8 z]) (.int .i64 0)).run Try.prog w = .ok (.int .u8 x) w := fun _ => by kernel_rfl
  have i1 : ∀ w, (Instr.index 46 (.agg #[.int .u8 x, .int .u8 y, .int .u8 z]) (.int .i64 1)).run Try.prog w = .ok (.int .u8 y) w := fun _ => by kernel_rfl
  have i2 : ∀ w, (Instr.index 46 (.agg #[.int .u8 x, .int .u8 y, .int .u8 z]) (.int .i64 2)).run Try.prog w = .ok (.int .u8 z) w := fun _ => by kernel_rfl
  have H := Lib.hid HA
  clear HA
  go_enter Try.func8, Try.ntmps8
  go_wp2
  refine wp_loop_rounds 4 ?_
  rw [rounds_succ]
  go_wp2_with (first | (go_at_call 12; (with_reducible refine (H.out _).mono ?_); rintro e w' ⟨rfl, rfl⟩))
  rw [rounds_succ]
  go_wp2_with (first | (go_at_call 12; (with_reducible refine (H.out _).mono ?_); rintro e w' ⟨rfl, rfl⟩))
  go_ret
  exact ⟨rfl, (Below.refl _ _).alloc (Nat.le_refl _) _⟩
set_option maxHeartbeats 1000000 in
theorem may_cc_0_f2 (x y z : Int) (w : World) (q0 : (x == 0) = true) (p0 : (x != 0) = false) (q1 : (y == 0) = true) (p1 : (y != 0) = false) (q2 : (z == 0) = false) (p2 : (z != 0) = true) :
    Calls Try.prog 8 #[.agg #[.int .u8 255, .int .u8 13, .int .u8 x, .int .u8 y, .int .u8 z]] w fun e w' => e = .returned (.bool false) ∧ Below w.heap.size w w' := by
  have HA : ∀ W, Calls Try.prog 12 #[.int .u8 13] W fun e w' => e = .returned (.int .i64 0) ∧ W = w' := fun W => args_any 13 W
  have i0 : ∀ w, (Instr.index 46 (.agg #[.int .u8 x, .int .u8 y, .int .u8 z]) (.int .i64 0)).run Try.prog w = .ok (.int .u8 x) w := fun _ => by kernel_rfl
  have i1 : ∀ w, (Instr.index 46 (.agg #[.int .u8 x, .int .u8 y, .int .u8 z]) (.int .i64 1)).run Try.prog w = .ok (.int .u8 y) w := fun _ => by kernel_rfl
  have i2 : ∀ w, (Instr.index 46 (.agg #[.int .u8 x, .int .u8 y, .int .u8 z]) (.int .i64 2)).run Try.prog w = .ok (.int .u8 z) w := fun _ => by kernel_rfl
  have H := Lib.hid HA
  clear HA
  go_enter Try.func8, Try.ntmps8
  go_wp2
  refine wp_loop_rounds 4 ?_
  rw [rounds_succ]
  go_wp2_with (first | (go_at_call 12; (with_reducible refine (H.out _).mono ?_); rintro e w' ⟨rfl, rfl⟩))
  rw [rounds_succ]
  go_wp2_with (first | (go_at_call 12; (with_reducible refine (H.out _).mono ?_); rintro e w' ⟨rfl, rfl⟩))
  rw [rounds_succ]
  go_wp2_with (first | (go_at_call 12; (with_reducible refine (H.out _).mono ?_); rintro e w' ⟨rfl, rfl⟩))
  go_ret
  exact ⟨rfl, (Below.refl _ _).alloc (Nat.le_refl _) _⟩
set_option maxHeartbeats 1000000 in
theorem may_cc_0_ok (x y z : Int) (w : World) (q0 : (x == 0) = true) (p0 : (x != 0) = false) (q1 : (y == 0) = true) (p1 : (y != 0) = false) (q2 : (z == 0) = true) (p2 : (z != 0) = false) :
    Calls Try.prog 8 #[.agg #[.int .u8 255, .int .u8 13, .int .u8 x, .int .u8 y, .int .u8 z]] w fun e w' => e = .returned (.bool true) ∧ Below w.heap.size w w' := by
  have HA : ∀ W, Calls Try.prog 12 #[.int .u8 13] W fun e w' => e = .returned (.int .i64 0) ∧ W = w' := fun W => args_any 13 W
  have i0 : ∀ w, (Instr.index 46 (.agg #[.int .u8 x, .int .u8 y, .int .u8 z]) (.int .i64 0)).run Try.prog w = .ok (.int .u8 x) w := fun _ => by kernel_rfl
  have i1 : ∀ w, (Instr.index 46 (.agg #[.int .u8 x, .int .u8 y, .int .u8 z]) (.int .i64 1)).run Try.prog w = .ok (.int .u8 y) w := fun _ => by kernel_rfl
  have i2 : ∀ w, (Instr.index 46 (.agg #[.int .u8 x, .int .u8 y, .int .u8 z]) (.int .i64 2)).run Try.prog w = .ok (.int .u8 z) w := fun _ => by kernel_rfl
  have H := Lib.hid HA
  clear HA
  go_enter Try.func8, Try.ntmps8
  go_wp2
  refine wp_loop_rounds 4 ?_
  rw [rounds_succ]
  go_wp2_with (first | (go_at_call 12; (with_reducible refine (H.out _).mono ?_); rintro e w' ⟨rfl, rfl⟩))
  rw [rounds_succ]
  go_wp2_with (first | (go_at_call 12; (with_reducible refine (H.out _).mono ?_); rintro e w' ⟨rfl, rfl⟩))
  rw [rounds_succ]
  go_wp2_with (first | (go_at_call 12; (with_reducible refine (H.out _).mono ?_); rintro e w' ⟨rfl, rfl⟩))
  rw [rounds_succ]
  go_wp2
  go_ret
  exact ⟨rfl, (Below.refl _ _).alloc (Nat.le_refl _) _⟩
set_option maxHeartbeats 1000000 in
theorem may_tz_0_f0 (a x y z : Int) (w : World) (d2 : (a == 255) = false) (d2n : (a != 255) = true) (d3 : decide (64 ≤ a) = false) (q0 : (x == 0) = false) (p0 : (x != 0) = true) :
    Calls Try.prog 8 #[.agg #[.int .u8 a, .int .u8 0, .int .u8 x, .int .u8 y, .int .u8 z]] w fun e w' => e = .returned (.bool false) ∧ Below w.heap.size w w' := by
  have HA : ∀ W, Calls Try.prog 12 #[.int .u8 0] W fun e w' => e = .returned (.int .i64 0) ∧ W = w' := fun W => args_any 0 W
  have i0 : ∀ w, (Instr.index 46 (.agg #[.int .u8 x, .int .u8 y, .int .u8 z]) (.int .i64 0)).run Try.prog w = .ok (.int .u8 x) w := fun _ => by kernel_rfl
  have i1 : ∀ w, (Instr.index 46 (.agg #[.int .u8 x, .int .u8 y, .int .u8 z]) (.int .i64 1)).run Try.prog w = .ok (.int .u8 y) w := fun _ => by kernel_rfl
  have i2 : ∀ w, (Instr.index 46 (.agg #[.int .u8 x, .int .u8 y, .int .u8 z]) (.int .i64 2)).run Try.prog w = .ok (.int .u8 z) w := fun _ => by kernel_rfl
  have H := Lib.hid HA
  clear HA
  go_enter Try.func8, Try.ntmps8
  go_wp2
  refine wp_loop_rounds 4 ?_
  rw [rounds_succ]
  go_wp2_with (first | (go_at_call 12; (with_reducible refine (H.out _).mono ?_); rintro e w' ⟨rfl, rfl⟩))
  go_ret
  exact ⟨rfl, (Below.refl _ _).alloc (Nat.le_refl _) _⟩
set_option maxHeartbeats 1000000 in
theorem may_tz_0_f1 (a x y z : Int) (w : World) (d2 : (a == 255) = false) (d2n : (a != 255) = true) (d3 : decide (64 ≤ a) = false) (q0 : (x == 0) = true) (p0 : (x != 0) = false) (q1 : (y == 0) = false) (p1 : (y != 0) = true) :
    Calls Try.prog 8 #[.agg #[.int .u8 a, .int .u8 0, .int .u8 x, .int .u8 y, .int .u8 z]] w fun e w' => e = .returned (.bool false) ∧ Below w.heap.size w w' := by
  have HA : ∀ W, Calls Try.prog 12 #[.int .u8 0] W fun e w' => e = .returned (.int .i64 0) ∧ W = w' := fun W => args_any 0 W
  have i0 : ∀ w, (Instr.index 46 (.agg #[.int .u8 x, .int .u8 y, .int .u8 z]) (.int .i64 0)).run Try.prog w = .ok (.int .u8 x) w := fun _ => by kernel_rfl
  have i1 : ∀ w, (Instr.index 46 (.agg #[.int .u8 x, .int .u8 y, .int .u8 z]) (.int .i64 1)).run Try.prog w = .ok (.int .u8 y) w := fun _ => by kernel_rfl
  have i2 : ∀ w, (Instr.index 46 (.agg #[.int .u8 x, .int .u8 y, .int .u8 z]) (.int .i64 2)).run Try.prog w = .ok (.int .u8 z) w := fun _ => by kernel_rfl
  have H := Lib.hid HA
  clear HA
  go_enter Try.func8, Try.ntmps8
  go_wp2
  refine wp_loop_rounds 4 ?_
  rw [rounds_succ]
  go_wp2_with (first | (go_at_call 12; (with_reducible refine (H.out _).mono ?_); rintro e w' ⟨rfl, rfl⟩))
  rw [rounds_succ]
  go_wp2_with (first | (go_at_call 12; (with_reducible refine (H.out _).mono ?_); rintro e w' ⟨rfl, rfl⟩))
  go_ret
  exact ⟨rfl, (Below.refl _ _).alloc (Nat.le_refl _) _⟩
set_option maxHeartbeats 1000000 in
theorem may_tz_0_f2 (a x y z : Int) (w : World) (d2 : (a == 255) = false) (d2n : (a != 255) = true) (d3 : decide (64 ≤ a) = false) (q0 : (x == 0) = true) (p0 : (x != 0) = false) (q1 : (y == 0) = true) (p1 : (y != 0) = false) (q2 : (z == 0) = false) (p2 : (z != 0) = true) :
    Calls Try.prog 8 #[.agg #[.int .u8 a, .int .u8 0, .int .u8 x, .int .u8 y, .int .u8 z]] w fun e w' => e = .returned (.bool false) ∧ Below w.heap.size w w' := by
  have HA : ∀ W, Calls Try.prog 12 #[.int .u8 0] W fun e w' => e = .returned (.int .i64 0) ∧ W = w' := fun W => args_any 0 W
  have i0 : ∀ w, (Instr.index 46 (.agg #[.int .u8 x, .int .u8 y, .int .u8 z]) (.int .i64 0)).run Try.prog w = .ok (.int .u8 x) w := fun _ => by kernel_rfl
  have i1 : ∀ w, (Instr.index 46 (.agg #[.int .u8 x, .int .u8 y, .int .u8 z]) (.int .i64 1)).run Try.prog w = .ok (.int .u8 y) w := fun _ => by kernel_rfl
  have i2 : ∀ w, (Instr.index 46 (.agg #[.int .u8 x, .int .u8 y, .int .u8 z]) (.int .i64 2)).run Try.prog w = .ok (.int .u8 z) w := fun _ => by kernel_rfl
  have H := Lib.hid HA
  clear HA
  go_enter Try.func8, Try.ntmps8
  go_wp2
  refine wp_loop_rounds 4 ?_
  rw [rounds_succ]
  go_wp2_with (first | (go_at_call 12; (with_reducible refine (H.out _).mono ?_); rintro e w' ⟨rfl, rfl⟩))
  rw [rounds_succ]
  go_wp2_with (first | (go_at_call 12; (with_reducible refine (H.out _).mono ?_); rintro e w' ⟨rfl, rfl⟩))
  rw [rounds_succ]
  go_wp2_with (first | (go_at_call 12; (with_reducible refine (H.out _).mono ?_); rintro e w' ⟨rfl, rfl⟩))
  go_ret
  exact ⟨rfl, (Below.refl _ _).alloc (Nat.le_refl _) _⟩
set_option maxHeartbeats 1000000 in
theorem may_tz_0_ok (a x y z : Int) (w : World) (d2 : (a == 255) = false) (d2n : (a != 255) = true) (d3 : decide (64 ≤ a) = false) (q0 : (x == 0) = true) (p0 : (x != 0) = false) (q1 : (y == 0) = true) (p1 : (y != 0) = false) (q2 : (z == 0) = true) (p2 : (z != 0) = false) :
    Calls Try.prog 8 #[.agg #[.int .u8 a, .int .u8 0, .int .u8 x, .int .u8 y, .int .u8 z]] w fun e w' => e = .returned (.bool true) ∧ Below w.heap.size w w' := by
  have HA : ∀ W, Calls Try.prog 12 #[.int .u8 0] W fun e w' => e = .returned (.int .i64 0) ∧ W = w' := fun W => args_any 0 W
  have i0 : ∀ w, (Instr.index 46 (.agg #[.int .u8 x, .int .u8 y, .int .u8 z]) (.int .i64 0)).run Try.prog w = .ok (.int .u8 x) w := fun _ => by kernel_rfl
  have i1 : ∀ w, (Instr.index 46 (.agg #[.int .u8 x, .int .u8 y, .int .u8 z]) (.int .i64 1)).run Try.prog w = .ok (.int .u8 y) w := fun _ => by kernel_rfl
  have i2 : ∀ w, (Instr.index 46 (.agg #[.int .u8 x, .int .u8 y, .int .u8 z]) (.int .i64 2)).run Try.prog w = .ok (.int .u8 z) w := fun _ => by kernel_rfl
  have H := Lib.hid HA
  clear HA
  go_enter Try.func8, Try.ntmps8
  go_wp2
  refine wp_loop_rounds 4 ?_
  rw [rounds_succ]
  go_wp2_with (first | (go_at_call 12; (with_reducible refine (H.out _).mono ?_); rintro e w' ⟨rfl, rfl⟩))
  rw [rounds_succ]
  go_wp2_with (first | (go_at_call 12; (with_reducible refine (H.out _).mono ?_); rintro e w' ⟨rfl, rfl⟩))
  rw [rounds_succ]
  go_wp2_with (first | (go_at_call 12; (with_reducible refine (H.out _).mono ?_); rintro e w' ⟨rfl, rfl⟩))
  rw [rounds_succ]
  go_wp2
  go_ret
  exact ⟨rfl, (Below.refl _ _).alloc (Nat.le_refl _) _⟩
set_option maxHeartbeats 1000000 in
theorem may_tt_0_f0 (a d x y z : Int) (w : World) (d1 : decide (13 < d) = false) (d2 : (a == 255) = false) (d2n : (a != 255) = true) (d3 : decide (64 ≤ a) = false) (d4 : (d == 0) = false) (d4n : (d != 0) = true) (d5 : (d == 13) = false) (d5n : (d != 13) = true) (hn : argsp d = 0) (q0 : (x == 0) = false) (p0 : (x != 0) = true) :
    Calls Try.prog 8 #[.agg #[.int .u8 a, .int .u8 d, .int .u8 x, .int .u8 y, .int .u8 z]] w fun e w' => e = .returned (.bool false) ∧ Below w.heap.size w w' := by
  have HA : ∀ W, Calls Try.prog 12 #[.int .u8 d] W fun e w' => e = .returned (.int .i64 0) ∧ W = w' := fun W => by rw [← hn]; exact args_any d W
  have i0 : ∀ w, (Instr.index 46 (.agg #[.int .u8 x, .int .u8 y, .int .u8 z]) (.int .i64 0)).run Try.prog w = .ok (.int .u8 x) w := fun _ => by kernel_rfl
  have i1 : ∀ w, (Instr.index 46 (.agg #[.int .u8 x, .int .u8 y, .int .u8 z]) (.int .i64 1)).run Try.prog w = .ok (.int .u8 y) w := fun _ => by kernel_rfl
  have i2 : ∀ w, (Instr.index 46 (.agg #[.int .u8 x, .int .u8 y, .int .u8 z]) (.int .i64 2)).run Try.prog w = .ok (.int .u8 z) w := fun _ => by kernel_rfl
  have H := Lib.hid HA
  clear HA hn
  go_enter Try.func8, Try.ntmps8
  go_wp2
  refine wp_loop_rounds 4 ?_
  rw [rounds_succ]
  go_wp2_with (first | (go_at_call 12; (with_reducible refine (H.out _).mono ?_); rintro e w' ⟨rfl, rfl⟩))
  go_ret
  exact ⟨rfl, (Below.refl _ _).alloc (Nat.le_refl _) _⟩
set_option maxHeartbeats 1000000 in
theorem may_tt_0_f1 (a d x y z : Int) (w : World) (d1 : decide (13 < d) = false) (d2 : (a == 255) = false) (d2n : (a != 255) = true) (d3 : decide (64 ≤ a) = false) (d4 : (d == 0) = false) (d4n : (d != 0) = true) (d5 : (d == 13) = false) (d5n : (d != 13) = true) (hn : argsp d = 0) (q0 : (x == 0) = true) (p0 : (x != 0) = false) (q1 : (y == 0) = false) (p1 : (y != 0) = true) :
    Calls Try.prog 8 #[.agg #[.int .u8 a, .int .u8 d, .int .u8 x, .int .u8 y, .int .u8 z]] w fun e w' => e = .returned (.bool false) ∧ Below w.heap.size w w' := by
  have HA : ∀ W, Calls Try.prog 12 #[.int .u8 d] W fun e w' => e = .returned (.int .i64 0) ∧ W = w' := fun W => by rw [← hn]; exact args_any d W
  have i0 : ∀ w, (Instr.index 46 (.agg #[.int .u8 x, .int .u8 y, .int .u8 z]) (.int .i64 0)).run Try.prog w = .ok (.int .u8 x) w := fun _ => by kernel_rfl
  have i1 : ∀ w, (Instr.index 46 (.agg #[.int .u8 x, .int .u8 y, .int .u8 z]) (.int .i64 1)).run Try.prog w = .ok (.int .u8 y) w := fun _ => by kernel_rfl
  have i2 : ∀ w, (Instr.index 46 (.agg #[.int .u8 x, .int .u8 y, .int .u8 z]) (.int .i64 2)).run Try.prog w = .ok (.int .u8 z) w := fun _ => by kernel_rfl
  have H := Lib.hid HA
  clear HA hn
  go_enter Try.func8, Try.ntmps8
  go_wp2
  refine wp_loop_rounds 4 ?_
  rw [rounds_succ]
  go_wp2_with (first | (go_at_call 12; (with_reducible refine (H.out _).mono ?_); rintro e w' ⟨rfl, rfl⟩))
  rw [rounds_succ]
  go_wp2_with (first | (go_at_call 12; (with_reducible refine (H.out _).mono ?_); rintro e w' ⟨rfl, rfl⟩))
  go_ret
  exact ⟨rfl, (Below.refl _ _).alloc (Nat.le_refl _) _⟩
set_option maxHeartbeats 1000000 in
theorem may_tt_0_f2 (a d x y z : Int) (w : World) (d1 : decide (13 < d) = false) (d2 : (a == 255) = false) (d2n : (a != 255) = true) (d3 : decide (64 ≤ a) = false) (d4 : (d == 0) = false) (d4n : (d != 0) = true) (d5 : (d == 13) = false) (d5n : (d != 13) = true) (hn : argsp d = 0) (q0 : (x == 0) = true) (p0 : (x != 0) = false) (q1 : (y == 0) = true) (p1 : (y != 0) = false) (q2 : (z == 0) = false) (p2 : (z != 0) = true) :
    Calls Try.prog 8 #[.agg #[.int .u8 a, .int .u8 d, .int .u8 x, .int .u8 y, .int .u8 z]] w fun e w' => e = .returned (.bool false) ∧ Below w.heap.size w w' := by
  have HA : ∀ W, Calls Try.prog 12 #[.int .u8 d] W fun e w' => e = .returned (.int .i64 0) ∧ W = w' := fun W => by rw [← hn]; exact args_any d W
  have i0 : ∀ w, (Instr.index 46 (.agg #[.int .u8 x, .int .u8 y, .int .u8 z]) (.int .i64 0)).run Try.prog w = .ok (.int .u8 x) w := fun _ => by kernel_rfl
  have i1 : ∀ w, (Instr.index 46 (.agg #[.int .u8 x, .int .u8 y, .int .u8 z]) (.int .i64 1)).run Try.prog w = .ok (.int .u8 y) w := fun _ => by kernel_rfl
  have i2 : ∀ w, (Instr.index 46 (.agg #[.int .u8 x, .int .u8 y, .int .u8 z]) (.int .i64 2)).run Try.prog w = .ok (.int .u8 z) w := fun _ => by kernel_rfl
  have H := Lib.hid HA
  clear HA hn
  go_enter Try.func8, Try.ntmps8
  go_wp2
  refine wp_loop_rounds 4 ?_
  rw [rounds_succ]
  go_wp2_with (first | (go_at_call 12; (with_reducible refine (H.out _).mono ?_); rintro e w' ⟨rfl, rfl⟩))
  rw [rounds_succ]
  go_wp2_with (first | (go_at_call 12; (with_reducible refine (H.out _).mono ?_); rintro e w' ⟨rfl, rfl⟩))
  rw [rounds_succ]
  go_wp2_with (first | (go_at_call 12; (with_reducible refine (H.out _).mono ?_); rintro e w' ⟨rfl, rfl⟩))
  go_ret
  exact ⟨rfl, (Below.refl _ _).alloc (Nat.le_refl _) _⟩
set_option maxHeartbeats 1000000 in
theorem may_tt_0_ok (a d x y z : Int) (w : World) (d1 : decide (13 < d) = false) (d2 : (a == 255) = false) (d2n : (a != 255) = true) (d3 : decide (64 ≤ a) = false) (d4 : (d == 0) = false) (d4n : (d != 0) = true) (d5 : (d == 13) = false) (d5n : (d != 13) = true) (hn : argsp d = 0) (q0 : (x == 0) = true) (p0 : (x != 0) = false) (q1 : (y == 0) = true) (p1 : (y != 0) = false) (q2 : (z == 0) = true) (p2 : (z != 0) = false) :
    Calls Try.prog 8 #[.agg #[.int .u8 a, .int .u8 d, .int .u8 x, .int .u8 y, .int .u8 z]] w fun e w' => e = .returned (.bool true) ∧ Below w.heap.size w w' := by
  have HA : ∀ W, Calls Try.prog 12 #[.int .u8 d] W fun e w' => e = .returned (.int .i64 0) ∧ W = w' := fun W => by rw [← hn]; exact args_any d W
  have i0 : ∀ w, (Instr.index 46 (.agg #[.int .u8 x, .int .u8 y, .int .u8 z]) (.int .i64 0)).run Try.prog w = .ok (.int .u8 x) w := fun _ => by kernel_rfl
  have i1 : ∀ w, (Instr.index 46 (.agg #[.int .u8 x, .int .u8 y, .int .u8 z]) (.int .i64 1)).run Try.prog w = .ok (.int .u8 y) w := fun _ => by kernel_rfl
  have i2 : ∀ w, (Instr.index 46 (.agg #[.int .u8 x, .int .u8 y, .int .u8 z]) (.int .i64 2)).run Try.prog w = .ok (.int .u8 z) w := fun _ => by kernel_rfl
  have H := Lib.hid HA
  clear HA hn
  go_enter Try.func8, Try.ntmps8
  go_wp2
  refine wp_loop_rounds 4 ?_
  rw [rounds_succ]
  go_wp2_with (first | (go_at_call 12; (with_reducible refine (H.out _).mono ?_); rintro e w' ⟨rfl, rfl⟩))
  rw [rounds_succ]
  go_wp2_with (first | (go_at_call 12; (with_reducible refine (H.out _).mono ?_); rintro e w' ⟨rfl, rfl⟩))
  rw [rounds_succ]
  go_wp2_with (first | (go_at_call 12; (with_reducible refine (H.out _).mono ?_); rintro e w' ⟨rfl, rfl⟩))
  rw [rounds_succ]
  go_wp2
  go_ret
  exact ⟨rfl, (Below.refl _ _).alloc (Nat.le_refl _) _⟩
set_option maxHeartbeats 1000000 in
theorem may_tt_1_f1 (a d x y z : Int) (w : World) (d1 : decide (13 < d) = false) (d2 : (a == 255) = false) (d2n : (a != 255) = true) (d3 : decide (64 ≤ a) = false) (d4 : (d == 0) = false) (d4n : (d != 0) = true) (d5 : (d == 13) = false) (d5n : (d != 13) = true) (hn : argsp d = 1) (q1 : (y == 0) = false) (p1 : (y != 0) = true) :
    Calls Try.prog 8 #[.agg #[.int .u8 a, .int .u8 d, .int .u8 x, .int .u8 y, .int .u8 z]] w fun e w' => e = .returned (.bool false) ∧ Below w.heap.size w w' := by
  have HA : ∀ W, Calls Try.prog 12 #[.int .u8 d] W fun e w' => e = .returned (.int .i64 1) ∧ W = w' := fun W => by rw [← hn]; exact args_any d W
  have i0 : ∀ w, (Instr.index 46 (.agg #[.int .u8 x, .int .u8 y, .int .u8 z]) (.int .i64 0)).run Try.prog w = .ok (.int .u8 x) w := fun _ => by kernel_rfl
  have i1 : ∀ w, (Instr.index 46 (.agg #[.int .u8 x, .int .u8 y, .int .u8 z]) (.int .i64 1)).run Try.prog w = .ok (.int .u8 y) w := fun _ => by kernel_rfl
  have i2 : ∀ w, (Instr.index 46 (.agg #[.int .u8 x, .int .u8 y, .int .u8 z]) (.int .i64 2)).run Try.prog w = .ok (.int .u8 z) w := fun _ => by kernel_rfl
  have H := Lib.hid HA
  clear HA hn
  go_enter Try.func8, Try.ntmps8
  go_wp2
  refine wp_loop_rounds 4 ?_
  rw [rounds_succ]
  go_wp2_with (first | (go_at_call 12; (with_reducible refine (H.out _).mono ?_); rintro e w' ⟨rfl, rfl⟩))
  rw [rounds_succ]
  go_wp2_with (first | (go_at_call 12; (with_reducible refine (H.out _).mono ?_); rintro e w' ⟨rfl, rfl⟩))
  go_ret
  exact ⟨rfl, (Below.refl _ _).alloc (Nat.le_refl _) _⟩
set_option maxHeartbeats 1000000 in
theorem may_tt_1_f2 (a d x y z : Int) (w : World) (d1 : decide (13 < d) = false) (d2 : (a == 255) = false) (d2n : (a != 255) = true) (d3 : decide (64 ≤ a) = false) (d4 : (d == 0) = false) (d4n : (d != 0) = true) (d5 : (d == 13) = false) (d5n : (d != 13) = true) (hn : argsp d = 1) (q1 : (y == 0) = true) (p1 : (y != 0) = false) (q2 : (z == 0) = false) (p2 : (z != 0) = true) :
    Calls Try.prog 8 #[.agg #[.int .u8 a, .int .u8 d, .int .u8 x, .int .u8 y, .int .u8 z]] w fun e w' => e = .returned (.bool false) ∧ Below w.heap.size w w' := by
  have HA : ∀ W, Calls Try.prog 12 #[.int .u8 d] W fun e w' => e = .returned (.int .i64 1) ∧ W = w' := fun W => by rw [← hn]; exact args_any d W
  have i0 : ∀ w, (Instr.index 46 (.agg #[.int .u8 x, .int .u8 y, .int .u8 z]) (.int .i64 0)).run Try.prog w = .ok (.int .u8 x) w := fun _ => by kernel_rfl
  have i1 : ∀ w, (Instr.index 46 (.agg #[.int .u8 x, .int .u8 y, .int .u8 z]) (.int .i64 1)).run Try.prog w = .ok (.int .u8 y) w := fun _ => by kernel_rfl
  have i2 : ∀ w, (Instr.index 46 (.agg #[.int .u8 x, .int .u8 y, .int .u8 z]) (.int .i64 2)).run Try.prog w = .ok (.int .u8 z) w := fun _ => by kernel_rfl
  have H := Lib.hid HA
  clear HA hn
  go_enter Try.func8, Try.ntmps8
  go_wp2
  refine wp_loop_rounds 4 ?_
  rw [rounds_succ]
  go_wp2_with (first | (go_at_call 12; (with_reducible refine (H.out _).mono ?_); rintro e w' ⟨rfl, rfl⟩))
  rw [rounds_succ]
  go_wp2_with (first | (go_at_call 12; (with_reducible refine (H.out _).mono ?_); rintro e w' ⟨rfl, rfl⟩))
  rw [rounds_succ]
  go_wp2_with (first | (go_at_call 12; (with_reducible refine (H.out _).mono ?_); rintro e w' ⟨rfl, rfl⟩))
  go_ret
  exact ⟨rfl, (Below.refl _ _).alloc (Nat.le_refl _) _⟩
set_option maxHeartbeats 1000000 in
theorem may_tt_1_ok (a d x y z : Int) (w : World) (d1 : decide (13 < d) = false) (d2 : (a == 255) = false) (d2n : (a != 255) = true) (d3 : decide (64 ≤ a) = false) (d4 : (d == 0) = false) (d4n : (d != 0) = true) (d5 : (d == 13) = false) (d5n : (d != 13) = true) (hn : argsp d = 1) (q1 : (y == 0) = true) (p1 : (y != 0) = false) (q2 : (z == 0) = true) (p2 : (z != 0) = false) :
    Calls Try.prog 8 #[.agg #[.int .u8 a, .int .u8 d, .int .u8 x, .int .u8 y, .int .u8 z]] w fun e w' => e = .returned (.bool true) ∧ Below w.heap.size w w' := by
  have HA : ∀ W, Calls Try.prog 12 #[.int .u8 d] W fun e w' => e = .returned (.int .i64 1) ∧ W = w' := fun W => by rw [← hn]; exact args_any d W
  have i0 : ∀ w, (Instr.index 46 (.agg #[.int .u8 x, .int .u8 y, .int .u8 z]) (.int .i64 0)).run Try.prog w = .ok (.int .u8 x) w := fun _ => by kernel_rfl
  have i1 : ∀ w, (Instr.index 46 (.agg #[.int .u8 x, .int .u8 y, .int .u8 z]) (.int .i64 1)).run Try.prog w = .ok (.int .u8 y) w := fun _ => by kernel_rfl
  have i2 : ∀ w, (Instr.index 46 (.agg #[.int .u8 x, .int .u8 y, .int .u8 z]) (.int .i64 2)).run Try.prog w = .ok (.int .u8 z) w := fun _ => by kernel_rfl
  have H := Lib.hid HA
  clear HA hn
  go_enter Try.func8, Try.ntmps8
  go_wp2
  refine wp_loop_rounds 4 ?_
  rw [rounds_succ]
  go_wp2_with (first | (go_at_call 12; (with_reducible refine (H.out _).mono ?_); rintro e w' ⟨rfl, rfl⟩))
  rw [rounds_succ]
  go_wp2_with (first | (go_at_call 12; (with_reducible refine (H.out _).mono ?_); rintro e w' ⟨rfl, rfl⟩))
  rw [rounds_succ]
  go_wp2_with (first | (go_at_call 12; (with_reducible refine (H.out _).mono ?_); rintro e w' ⟨rfl, rfl⟩))
  rw [rounds_succ]
  go_wp2
  go_ret
  exact ⟨rfl, (Below.refl _ _).alloc (Nat.le_refl _) _⟩
set_option maxHeartbeats 1000000 in
theorem may_tt_2_f2 (a d x y z : Int) (w : World) (d1 : decide (13 < d) = false) (d2 : (a == 255) = false) (d2n : (a != 255) = true) (d3 : decide (64 ≤ a) = false) (d4 : (d == 0) = false) (d4n : (d != 0) = true) (d5 : (d == 13) = false) (d5n : (d != 13) = true) (hn : argsp d = 2) (q2 : (z == 0) = false) (p2 : (z != 0) = true) :
    Calls Try.prog 8 #[.agg #[.int .u8 a, .int .u8 d, .int .u8 x, .int .u8 y, .int .u8 z]] w fun e w' => e = .returned (.bool false) ∧ Below w.heap.size w w' := by
  have HA : ∀ W, Calls Try.prog 12 #[.int .u8 d] W fun e w' => e = .returned (.int .i64 2) ∧ W = w' := fun W => by rw [← hn]; exact args_any d W
  have i0 : ∀ w, (Instr.index 46 (.agg #[.int .u8 x, .int .u8 y, .int .u8 z]) (.int .i64 0)).run Try.prog w = .ok (.int .u8 x) w := fun _ => by kernel_rfl
  have i1 : ∀ w, (Instr.index 46 (.agg #[.int .u8 x, .int .u8 y, .int .u8 z]) (.int .i64 1)).run Try.prog w = .ok (.int .u8 y) w := fun _ => by kernel_rfl
  have i2 : ∀ w, (Instr.index 46 (.agg #[.int .u8 x, .int .u8 y, .int .u8 z]) (.int .i64 2)).run Try.prog w = .ok (.int .u8 z) w := fun _ => by kernel_rfl
  have H := Lib.hid HA
  clear HA hn
  go_enter Try.func8, Try.ntmps8
  go_wp2
  refine wp_loop_rounds 4 ?_
  rw [rounds_succ]
  go_wp2_with (first | (go_at_call 12; (with_reducible refine (H.out _).mono ?_); rintro e w' ⟨rfl, rfl⟩))
  rw [rounds_succ]
  go_wp2_with (first | (go_at_call 12; (with_reducible refine (H.out _).mono ?_); rintro e w' ⟨rfl, rfl⟩))
  rw [rounds_succ]
  go_wp2_with (first | (go_at_call 12; (with_reducible refine (H.out _).mono ?_); rintro e w' ⟨rfl, rfl⟩))
  go_ret
  exact ⟨rfl, (Below.refl _ _).alloc (Nat.le_refl _) _⟩
set_option maxHeartbeats 1000000 in
theorem may_tt_2_ok (a d x y z : Int) (w : World) (d1 : decide (13 < d) = false) (d2 : (a == 255) = false) (d2n : (a != 255) = true) (d3 : decide (64 ≤ a) = false) (d4 : (d == 0) = false) (d4n : (d != 0) = true) (d5 : (d == 13) = false) (d5n : (d != 13) = true) (hn : argsp d = 2) (q2 : (z == 0) = true) (p2 : (z != 0) = false) :
    Calls Try.prog 8 #[.agg #[.int .u8 a, .int .u8 d, .int .u8 x, .int .u8 y, .int .u8 z]] w fun e w' => e = .returned (.bool true) ∧ Below w.heap.size w w' := by
  have HA : ∀ W, Calls Try.prog 12 #[.int .u8 d] W fun e w' => e = .returned (.int .i64 2) ∧ W = w' := fun W => by rw [← hn]; exact args_any d W
  have i0 : ∀ w, (Instr.index 46 (.agg #[.int .u8 x, .int .u8 y, .int .u8 z]) (.int .i64 0)).run Try.prog w = .ok (.int .u8 x) w := fun _ => by kernel_rfl
  have i1 : ∀ w, (Instr.index 46 (.agg #[.int .u8 x, .int .u8 y, .int .u8 z]) (.int .i64 1)).run Try.prog w = .ok (.int .u8 y) w := fun _ => by kernel_rfl
  have i2 : ∀ w, (Instr.index 46 (.agg #[.int .u8 x, .int .u8 y, .int .u8 z]) (.int .i64 2)).run Try.prog w = .ok (.int .u8 z) w := fun _ => by kernel_rfl
  have H := Lib.hid HA
  clear HA hn
  go_enter Try.func8, Try.ntmps8
  go_wp2
  refine wp_loop_rounds 4 ?_
  rw [rounds_succ]
  go_wp2_with (first | (go_at_call 12; (with_reducible refine (H.out _).mono ?_); rintro e w' ⟨rfl, rfl⟩))
  rw [rounds_succ]
  go_wp2_with (first | (go_at_call 12; (with_reducible refine (H.out _).mono ?_); rintro e w' ⟨rfl, rfl⟩))
  rw [rounds_succ]
  go_wp2_with (first | (go_at_call 12; (with_reducible refine (H.out _).mono ?_); rintro e w' ⟨rfl, rfl⟩))
  rw [rounds_succ]
  go_wp2
  go_ret
  exact ⟨rfl, (Below.refl _ _).alloc (Nat.le_refl _) _⟩
set_option maxHeartbeats 1000000 in
theorem may_tt_3_ok (a d x y z : Int) (w : World) (d1 : decide (13 < d) = false) (d2 : (a == 255) = false) (d2n : (a != 255) = true) (d3 : decide (64 ≤ a) = false) (d4 : (d == 0) = false) (d4n : (d != 0) = true) (d5 : (d == 13) = false) (d5n : (d != 13) = true) (hn : argsp d = 3) :
    Calls Try.prog 8 #[.agg #[.int .u8 a, .int .u8 d, .int .u8 x, .int .u8 y, .int .u8 z]] w fun e w' => e = .returned (.bool true) ∧ Below w.heap.size w w' := by
  have HA : ∀ W, Calls Try.prog 12 #[.int .u8 d] W fun e w' => e = .returned (.int .i64 3) ∧ W = w' := fun W => by rw [← hn]; exact args_any d W
  have i0 : ∀ w, (Instr.index 46 (.agg #[.int .u8 x, .int .u8 y, .int .u8 z]) (.int .i64 0)).run Try.prog w = .ok (.int .u8 x) w := fun _ => by kernel_rfl
  have i1 : ∀ w, (Instr.index 46 (.agg #[.int .u8 x, .int .u8 y, .int .u8 z]) (.int .i64 1)).run Try.prog w = .ok (.int .u8 y) w := fun _ => by kernel_rfl
  have i2 : ∀ w, (Instr.index 46 (.agg #[.int .u8 x, .int .u8 y, .int .u8 z]) (.int .i64 2)).run Try.prog w = .ok (.int .u8 z) w := fun _ => by kernel_rfl
  have H := Lib.hid HA
  clear HA hn
  go_enter Try.func8, Try.ntmps8
  go_wp2
  refine wp_loop_rounds 4 ?_
  rw [rounds_succ]
  go_wp2_with (first | (go_at_call 12; (with_reducible refine (H.out _).mono ?_); rintro e w' ⟨rfl, rfl⟩))
  rw [rounds_succ]
  go_wp2_with (first | (go_at_call 12; (with_reducible refine (H.out _).mono ?_); rintro e w' ⟨rfl, rfl⟩))
  rw [rounds_succ]
  go_wp2_with (first | (go_at_call 12; (with_reducible refine (H.out _).mono ?_); rintro e w' ⟨rfl, rfl⟩))
  rw [rounds_succ]
  go_wp2
  go_ret
  exact ⟨rfl, (Below.refl _ _).alloc (Nat.le_refl _) _⟩
def mayp (a d x y z : Int) : Bool :=
  if 13 < d then false else if a ≠ 255 ∧ 64 ≤ a then false else if d ≠ 0 ∧ ((a = 255) ≠ (d = 13)) then false
  else decide ((0 < argsp d ∨ x = 0) ∧ (1 < argsp d ∨ y = 0) ∧ (2 < argsp d ∨ z = 0))
theorem argsp_cases (d : Int) : argsp d = 0 ∨ argsp d = 1 ∨ argsp d = 2 ∨ argsp d = 3 := by
  unfold argsp
  split
  · exact .inr (.inr (.inr rfl))
  split
  · exact .inr (.inr (.inl rfl))
  split
  · exact .inr (.inl rfl)
  exact .inl rfl
theorem ne_t {a b : Int} (h : ¬ a = b) : (a == b) = false := beq_eq_false_iff_ne.mpr h
theorem ne_n {a b : Int} (h : ¬ a = b) : (a != b) = true := bne_iff_ne.mpr h
theorem eq_t {a b : Int} (h : a = b) : (a == b) = true := beq_iff_eq.mpr h
theorem eq_n {a b : Int} (h : a = b) : (a != b) = false := by simp [h]
theorem may_any (a d x y z : Int) (w : World) :
    Calls Try.prog 8 #[.agg #[.int .u8 a, .int .u8 d, .int .u8 x, .int .u8 y, .int .u8 z]] w fun e w' => e = .returned (.bool (mayp a d x y z)) ∧ Below w.heap.size w w' := by
  by_cases h1 : 13 < d
  · rw [show mayp a d x y z = false from by unfold mayp; rw [if_pos h1]]
    exact may_wide1 a d x y z w (decide_eq_true h1)
  have D1 := decide_eq_false h1
  by_cases h2 : a ≠ 255 ∧ 64 ≤ a
  · rw [show mayp a d x y z = false from by unfold mayp; rw [if_neg h1, if_pos h2]]
    exact may_wide2 a d x y z w D1 (ne_t h2.1) (ne_n h2.1) (decide_eq_true h2.2)
  have MP : ∀ r, mayp a d x y z = r ↔ (if d ≠ 0 ∧ ((a = 255) ≠ (d = 13)) then false
      else decide ((0 < argsp d ∨ x = 0) ∧ (1 < argsp d ∨ y = 0) ∧ (2 < argsp d ∨ z = 0))) = r := fun r => by
    unfold mayp; rw [if_neg h1, if_neg h2]
  by_cases h3 : a = 255
  · subst h3
    by_cases h4 : d = 0
    · subst h4
      have e0 : argsp 0 = 0 := by decide
      have MQ : mayp 255 0 x y z = decide ((0 < (0:Int) ∨ x = 0) ∧ (1 < (0:Int) ∨ y = 0) ∧ (2 < (0:Int) ∨ z = 0)) := (MP _).2 (by rw [e0, if_neg (fun h => h.1 rfl)])
      rw [MQ]
      by_cases q0 : x = 0
      · by_cases q1 : y = 0
        · by_cases q2 : z = 0
          · rw [decide_eq_true (show _ from ⟨.inr q0, .inr q1, .inr q2⟩)]
            exact may_cz_0_ok x y z w (eq_t q0) (eq_n q0) (eq_t q1) (eq_n q1) (eq_t q2) (eq_n q2)
          · rw [decide_eq_false (show ¬ _ from fun h => by omega)]
            exact may_cz_0_f2 x y z w (eq_t q0) (eq_n q0) (eq_t q1) (eq_n q1) (ne_t q2) (ne_n q2)
        · rw [decide_eq_false (show ¬ _ from fun h => by omega)]
          exact may_cz_0_f1 x y z w (eq_t q0) (eq_n q0) (ne_t q1) (ne_n q1)
      · rw [decide_eq_false (show ¬ _ from fun h => by omega)]
        exact may_cz_0_f0 x y z w (ne_t q0) (ne_n q0)
    by_cases h5 : d = 13
    · subst h5
      have e0 : argsp 13 = 0 := by decide
      have MQ : mayp 255 13 x y z = decide ((0 < (0:Int) ∨ x = 0) ∧ (1 < (0:Int) ∨ y = 0) ∧ (2 < (0:Int) ∨ z = 0)) := (MP _).2 (by rw [e0, if_neg (by simp)])
      rw [MQ]
      by_cases q0 : x = 0
      · by_cases q1 : y = 0
        · by_cases q2 : z = 0
          · rw [decide_eq_true (show _ from ⟨.inr q0, .inr q1, .inr q2⟩)]
            exact may_cc_0_ok x y z w (eq_t q0) (eq_n q0) (eq_t q1) (eq_n q1) (eq_t q2) (eq_n q2)
          · rw [decide_eq_false (show ¬ _ from fun h => by omega)]
            exact may_cc_0_f2 x y z w (eq_t q0) (eq_n q0) (eq_t q1) (eq_n q1) (ne_t q2) (ne_n q2)
        · rw [decide_eq_false (show ¬ _ from fun h => by omega)]
          exact may_cc_0_f1 x y z w (eq_t q0) (eq_n q0) (ne_t q1) (ne_n q1)
      · rw [decide_eq_false (show ¬ _ from fun h => by omega)]
        exact may_cc_0_f0 x y z w (ne_t q0) (ne_n q0)
    rw [(MP false).2 (by rw [if_pos ⟨h4, by simp [h5]⟩])]
    exact may_mis_c d x y z w D1 (ne_t h4) (ne_n h4) (ne_t h5) (ne_n h5)
  have h2' : ¬ 64 ≤ a := fun h => h2 ⟨h3, h⟩
  have D3 := decide_eq_false h2'
  by_cases h4 : d = 0
  · subst h4
    have e0 : argsp 0 = 0 := by decide
    have MQ : mayp a 0 x y z = decide ((0 < (0:Int) ∨ x = 0) ∧ (1 < (0:Int) ∨ y = 0) ∧ (2 < (0:Int) ∨ z = 0)) := (MP _).2 (by rw [e0, if_neg (fun h => h.1 rfl)])
    rw [MQ]
    by_cases q0 : x = 0
    · by_cases q1 : y = 0
      · by_cases q2 : z = 0
        · rw [decide_eq_true (show _ from ⟨.inr q0, .inr q1, .inr q2⟩)]
          exact may_tz_0_ok a x y z w (ne_t h3) (ne_n h3) D3 (eq_t q0) (eq_n q0) (eq_t q1) (eq_n q1) (eq_t q2) (eq_n q2)
        · rw [decide_eq_false (show ¬ _ from fun h => by omega)]
          exact may_tz_0_f2 a x y z w (ne_t h3) (ne_n h3) D3 (eq_t q0) (eq_n q0) (eq_t q1) (eq_n q1) (ne_t q2) (ne_n q2)
      · rw [decide_eq_false (show ¬ _ from fun h => by omega)]
        exact may_tz_0_f1 a x y z w (ne_t h3) (ne_n h3) D3 (eq_t q0) (eq_n q0) (ne_t q1) (ne_n q1)
    · rw [decide_eq_false (show ¬ _ from fun h => by omega)]
      exact may_tz_0_f0 a x y z w (ne_t h3) (ne_n h3) D3 (ne_t q0) (ne_n q0)
  by_cases h5 : d = 13
  · subst h5
    rw [(MP false).2 (by rw [if_pos ⟨by decide, by simp [h3]⟩])]
    exact may_mis_t a x y z w (ne_t h3) (ne_n h3) D3
  have MQ : mayp a d x y z = decide ((0 < argsp d ∨ x = 0) ∧ (1 < argsp d ∨ y = 0) ∧ (2 < argsp d ∨ z = 0)) := (MP _).2 (by rw [if_neg (by simp [h3, h5])])
  rw [MQ]
  rcases argsp_cases d with en | en | en | en
  · rw [en]
    by_cases q0 : x = 0
    · by_cases q1 : y = 0
      · by_cases q2 : z = 0
        · rw [decide_eq_true (show _ from ⟨.inr q0, .inr q1, .inr q2⟩)]
          exact may_tt_0_ok a d x y z w D1 (ne_t h3) (ne_n h3) D3 (ne_t h4) (ne_n h4) (ne_t h5) (ne_n h5) en (eq_t q0) (eq_n q0) (eq_t q1) (eq_n q1) (eq_t q2) (eq_n q2)
        · rw [decide_eq_false (show ¬ _ from fun h => by omega)]
          exact may_tt_0_f2 a d x y z w D1 (ne_t h3) (ne_n h3) D3 (ne_t h4) (ne_n h4) (ne_t h5) (ne_n h5) en (eq_t q0) (eq_n q0) (eq_t q1) (eq_n q1) (ne_t q2) (ne_n q2)
      · rw [decide_eq_false (show ¬ _ from fun h => by omega)]
        exact may_tt_0_f1 a d x y z w D1 (ne_t h3) (ne_n h3) D3 (ne_t h4) (ne_n h4) (ne_t h5) (ne_n h5) en (eq_t q0) (eq_n q0) (ne_t q1) (ne_n q1)
    · rw [decide_eq_false (show ¬ _ from fun h => by omega)]
      exact may_tt_0_f0 a d x y z w D1 (ne_t h3) (ne_n h3) D3 (ne_t h4) (ne_n h4) (ne_t h5) (ne_n h5) en (ne_t q0) (ne_n q0)
  · rw [en]
    by_cases q1 : y = 0
    · by_cases q2 : z = 0
      · rw [decide_eq_true (show _ from ⟨.inl (by decide), .inr q1, .inr q2⟩)]
        exact may_tt_1_ok a d x y z w D1 (ne_t h3) (ne_n h3) D3 (ne_t h4) (ne_n h4) (ne_t h5) (ne_n h5) en (eq_t q1) (eq_n q1) (eq_t q2) (eq_n q2)
      · rw [decide_eq_false (show ¬ _ from fun h => by omega)]
        exact may_tt_1_f2 a d x y z w D1 (ne_t h3) (ne_n h3) D3 (ne_t h4) (ne_n h4) (ne_t h5) (ne_n h5) en (eq_t q1) (eq_n q1) (ne_t q2) (ne_n q2)
    · rw [decide_eq_false (show ¬ _ from fun h => by omega)]
      exact may_tt_1_f1 a d x y z w D1 (ne_t h3) (ne_n h3) D3 (ne_t h4) (ne_n h4) (ne_t h5) (ne_n h5) en (ne_t q1) (ne_n q1)
  · rw [en]
    by_cases q2 : z = 0
    · rw [decide_eq_true (show _ from ⟨.inl (by decide), .inl (by decide), .inr q2⟩)]
      exact may_tt_2_ok a d x y z w D1 (ne_t h3) (ne_n h3) D3 (ne_t h4) (ne_n h4) (ne_t h5) (ne_n h5) en (eq_t q2) (eq_n q2)
    · rw [decide_eq_false (show ¬ _ from fun h => by omega)]
      exact may_tt_2_f2 a d x y z w D1 (ne_t h3) (ne_n h3) D3 (ne_t h4) (ne_n h4) (ne_t h5) (ne_n h5) en (ne_t q2) (ne_n q2)
  · rw [en, decide_eq_true (show _ from ⟨.inl (by decide), .inl (by decide), .inl (by decide)⟩)]
    exact may_tt_3_ok a d x y z w D1 (ne_t h3) (ne_n h3) D3 (ne_t h4) (ne_n h4) (ne_t h5) (ne_n h5) en
/-! ### what Encode and Decode answer -/
abbrev I5 := Int × Int × Int × Int × Int
def may5 (e : I5) : Bool := mayp e.1 e.2.1 e.2.2.1 e.2.2.2.1 e.2.2.2.2
def bytes5 (e : I5) : List Int := [e.1, e.2.1, e.2.2.1, e.2.2.2.1, e.2.2.2.2].take (2 + argsp e.2.1).toNat
def encL : List I5 → Option (List Int)
  | [] => some []
  | e :: r => if may5 e then (encL r).map (bytes5 e ++ ·) else none
def encR (l : List I5) : ByteArray × Int := match encL l with
  | some b => (strOfNums b, 0)
  | none => (ByteArray.empty, 3)
/-- The entry at the head of bytes. -/
def head5 (b : List Int) : I5 := let n := (2 + argsp (b.getD 1 0)).toNat; let x := b.take n; (x.getD 0 0, x.getD 1 0, x.getD 2 0, x.getD 3 0, x.getD 4 0)
def decL : Nat → List Int → Option (List I5)
  | 0, b => if b = [] then some [] else none
  | k + 1, b => if b = [] then some [] else if (b.length : Int) < 2 ∨ (b.length : Int) < 2 + argsp (b.getD 1 0) then none
    else if may5 (head5 b) then (decL k (b.drop (2 + argsp (b.getD 1 0)).toNat)).map (head5 b :: ·) else none
def decR (s : ByteArray) : List I5 × Int := if 4000 < s.size then ([], 8) else match decL s.size (bytesOf s) with
  | some l => (l, 0)
  | none => ([], 3)
end Go.Proofs.Ytdibmmcdmjpbpaa.Hand
