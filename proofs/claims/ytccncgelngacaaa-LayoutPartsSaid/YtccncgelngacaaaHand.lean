/- Proved here: what 'row', its closure, 'table', 'Entry' and 'Start' of package layout answer and what they do to memory; no condition but those that each theorem writes out. -/
import Derived.Test.YtccncgelngacaaaWMore
import Derived.Test.YtccncgelngacaaaProg
import Derived.WalkKit
import Derived.Below
import Derived.KernelRfl
import Derived.Deep.QuietTactic
import Derived.BigQuiet
import Derived.Deep.RegionHeld3
import Derived.OrdersHeld
import Derived.RegionTactic
namespace Go.Proofs.Ytccncgelngacaaa.Hand
open Go.RowKit Go.Proofs.YtccncgelngacaaaW.PrintWords Go.Proofs.YtccncgelngacaaaW.PrintLast Go.Proofs.YtccncgelngacaaaW.PrintMore
set_option linter.unusedVariables false
set_option linter.unusedSimpArgs false
theorem row_out (i n from_ wide : Int) (pn pf pw : Addr) (w : World) (hn : w.cell? pn = some (.int .i64 n)) (h : i < 0 ∨ n ≤ i) :
    Calls Try.prog 25 #[.int .i64 i, .pointer (some pn), .pointer (some pf), .pointer (some pw)] w fun e w' => e = .returned (.int .i64 (-1)) ∧ w = w' := by
  by_cases h0 : i < 0
  · have c1 : decide (i < 0) = true := decide_eq_true h0
    clear h h0
    go_enter Try.func25, Try.ntmps25
    go_wp2
    go_ret
    exact ⟨rfl, rfl⟩
  · have c1 : decide (i < 0) = false := decide_eq_false h0
    have c2 : decide (n ≤ i) = true := decide_eq_true (by omega)
    clear h h0
    go_enter Try.func25, Try.ntmps25
    go_wp2
    go_ret
    exact ⟨rfl, rfl⟩
theorem row_in (i n from_ wide : Int) (pn pf pw : Addr) (w : World) (hn : w.cell? pn = some (.int .i64 n)) (hf : w.cell? pf = some (.int .i64 from_)) (hw : w.cell? pw = some (.int .i64 wide)) (h0 : 0 ≤ i) (h1 : i < n) :
    Calls Try.prog 25 #[.int .i64 i, .pointer (some pn), .pointer (some pf), .pointer (some pw)] w fun e w' => e = .returned (.int .i64 (wrap64 (from_ + wrap64 (i * wide)))) ∧ w = w' := by
  have c1 : decide (i < 0) = false := decide_eq_false (by omega)
  have c2 : decide (n ≤ i) = false := decide_eq_false (by omega)
  clear h0 h1
  go_enter Try.func25, Try.ntmps25
  go_wp2
  go_ret
  exact ⟨rfl, rfl⟩
theorem row_made (from_ n wide : Int) (w : World) :
    Calls Try.prog 24 #[.int .i64 from_, .int .i64 n, .int .i64 wide] w fun e w' => e = .returned (.func (.func 25) #[] #[.pointer (some ⟨w.heap.size + 1, 0, none⟩), .pointer (some ⟨w.heap.size, 0, none⟩), .pointer (some ⟨w.heap.size + 2, 0, none⟩)]) ∧ ((w.alloc (.cells #[.int .i64 from_] 3)).alloc (.cells #[.int .i64 n] 3)).alloc (.cells #[.int .i64 wide] 3) = w' := by
  have hmf : ∀ (fn : Fn) (first cap : Array Value) (w : World), (Instr.makeFunc fn first cap).run Try.prog w = .ok (.func fn first cap) w := fun _ _ _ _ => rfl
  go_enter Try.func24, Try.ntmps24
  go_wp2
  go_ret
  exact ⟨rfl, rfl⟩
theorem table_made (a0 a1 a2 : Int) (w : World) :
    Calls Try.prog 23 #[.agg #[.int .i64 a0, .int .i64 a1, .int .i64 a2]] w fun e w' => e = .returned (.int .i64 (wrap64 (wrap64 (3 + a0) + a1))) ∧ w.alloc (.cells #[.int .i64 a0, .int .i64 a1, .int .i64 a2] 23) = w' := by
  go_enter Try.func23, Try.ntmps23
  go_wp2
  go_ret
  exact ⟨rfl, rfl⟩
set_option maxHeartbeats 8000000 in
theorem Entry.out (a0_0 a0_1 a0_2 a1 : Int) (w : World) (h : a1 < 0 ∨ a0_2 ≤ a1) :
    Calls Try.prog 12 #[.agg #[.int .i64 a0_0, .int .i64 a0_1, .int .i64 a0_2], .int .i64 a1] w fun e w' => e = .returned (.int .i64 (-1)) ∧ Below w.heap.size w w' := by
  go_enter Try.func12, Try.ntmps12
  go_wp2
  go_region_with (first | (go_at_call 23; (with_reducible refine (table_made _ _ _ _).mono ?_); rintro e w' ⟨rfl, rfl⟩) | (go_at_call 24; (with_reducible refine (row_made _ _ _ _).mono ?_); rintro e w' ⟨rfl, rfl⟩) | (go_at_call 25; refine (row_out a1 a0_2 3 1 _ _ _ _ ?hc h).mono ?_; (case hc => go_simp; done); rintro e w' ⟨rfl, rfl⟩))
  all_goals
    go_wp2
    go_ret
    exact ⟨rfl, by repeat (first | exact Below.refl _ _ | (refine below_alloc ?_ _) | (refine pw_below_drewN ?_ _) | (refine below_drew1 ?_))⟩
set_option maxHeartbeats 8000000 in
theorem Entry.inn (a0_0 a0_1 a0_2 a1 : Int) (w : World) (h0 : 0 ≤ a1) (h1 : a1 < a0_2) :
    Calls Try.prog 12 #[.agg #[.int .i64 a0_0, .int .i64 a0_1, .int .i64 a0_2], .int .i64 a1] w fun e w' => e = .returned (.int .i64 (wrap64 (wrap64 (wrap64 (3 + a0_0) + a0_1) + wrap64 (a1 * 1)))) ∧ Below w.heap.size w w' := by
  have H0 := Aside0.mk h0
  have H1 := Aside0.mk h1
  clear h0 h1
  go_enter Try.func12, Try.ntmps12
  go_wp2
  go_region_with (first | (go_at_call 23; (with_reducible refine (table_made _ _ _ _).mono ?_); rintro e w' ⟨rfl, rfl⟩) | (go_at_call 24; (with_reducible refine (row_made _ _ _ _).mono ?_); rintro e w' ⟨rfl, rfl⟩) | (go_at_call 25; refine (row_in a1 a0_2 (wrap64 (wrap64 (3 + a0_0) + a0_1)) 1 _ _ _ _ ?hc ?hd ?he H0.out H1.out).mono ?_; (case hc => go_simp; done); (case hd => go_simp; done); (case he => go_simp; done); rintro e w' ⟨rfl, rfl⟩))
  all_goals
    go_wp2
    go_ret
    exact ⟨by first | rfl | (rw [Int.mul_one]; rfl), by repeat (first | exact Below.refl _ _ | (refine below_alloc ?_ _) | (refine pw_below_drewN ?_ _) | (refine below_drew1 ?_))⟩
set_option maxHeartbeats 8000000 in
theorem Start.out (a0_0 a0_1 a0_2 a1 : Int) (w : World) (h : a1 < 0 ∨ a0_2 ≤ a1) :
    Calls Try.prog 13 #[.agg #[.int .i64 a0_0, .int .i64 a0_1, .int .i64 a0_2], .int .i64 a1] w fun e w' => e = .returned (.int .i64 (-1)) ∧ Below w.heap.size w w' := by
  go_enter Try.func13, Try.ntmps13
  go_wp2
  go_region_with (first | (go_at_call 23; (with_reducible refine (table_made _ _ _ _).mono ?_); rintro e w' ⟨rfl, rfl⟩) | (go_at_call 24; (with_reducible refine (row_made _ _ _ _).mono ?_); rintro e w' ⟨rfl, rfl⟩) | (go_at_call 25; refine (row_out a1 a0_2 3 1 _ _ _ _ ?hc h).mono ?_; (case hc => go_simp; done); rintro e w' ⟨rfl, rfl⟩))
  all_goals
    go_wp2
    go_ret
    exact ⟨rfl, by repeat (first | exact Below.refl _ _ | (refine below_alloc ?_ _) | (refine pw_below_drewN ?_ _) | (refine below_drew1 ?_))⟩
set_option maxHeartbeats 8000000 in
theorem Start.inn (a0_0 a0_1 a0_2 a1 : Int) (w : World) (h0 : 0 ≤ a1) (h1 : a1 < a0_2) :
    Calls Try.prog 13 #[.agg #[.int .i64 a0_0, .int .i64 a0_1, .int .i64 a0_2], .int .i64 a1] w fun e w' => e = .returned (.int .i64 (wrap64 (wrap64 (wrap64 (wrap64 (3 + a0_0) + a0_1) + a0_2) + wrap64 (a1 * 32)))) ∧ Below w.heap.size w w' := by
  have H0 := Aside0.mk h0
  have H1 := Aside0.mk h1
  clear h0 h1
  go_enter Try.func13, Try.ntmps13
  go_wp2
  go_region_with (first | (go_at_call 23; (with_reducible refine (table_made _ _ _ _).mono ?_); rintro e w' ⟨rfl, rfl⟩) | (go_at_call 24; (with_reducible refine (row_made _ _ _ _).mono ?_); rintro e w' ⟨rfl, rfl⟩) | (go_at_call 25; refine (row_in a1 a0_2 (IntKind.i64.wrap (wrap64 (wrap64 (3 + a0_0) + a0_1) + a0_2)) 32 _ _ _ _ ?hc ?hd ?he H0.out H1.out).mono ?_; (case hc => go_simp; done); (case hd => go_simp; done); (case he => go_simp; done); rintro e w' ⟨rfl, rfl⟩))
  all_goals
    go_wp2
    go_ret
    exact ⟨by first | rfl | (simp only [i64_w]; rfl), by repeat (first | exact Below.refl _ _ | (refine below_alloc ?_ _) | (refine pw_below_drewN ?_ _) | (refine below_drew1 ?_))⟩
end Go.Proofs.Ytccncgelngacaaa.Hand
