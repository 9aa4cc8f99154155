/- Proved here: what 'may', the closures of 'Put' and 'Take', 'Put' and 'Take' of package word answer and what they do to memory; no condition but those that each theorem writes out. -/
import Derived.Test.YtgjgdgdckmgfmaaWMore
import Derived.Test.YtgjgdgdckmgfmaaWEqStruct
import Derived.Test.YtgjgdgdckmgfmaaProg
import Derived.WalkKit
import Derived.Below
import Derived.KernelRfl
import Derived.Deep.QuietTactic
import Derived.BigQuiet
import Derived.RegionTactic
import Derived.ChangeAlike
import Derived.Laws.Bits64
import Derived.Laws.BitsLemmas
namespace Go.Proofs.Ytgjgdgdckmgfmaa.Hand
open Go.RowKit Go.Proofs.YtgjgdgdckmgfmaaW.PrintWords Go.Proofs.YtgjgdgdckmgfmaaW.PrintLast Go.Proofs.YtgjgdgdckmgfmaaW.PrintMore
set_option linter.unusedVariables false
set_option linter.unusedSimpArgs false
theorem eqH (d : Nat) (w : World) (x0 y0 : Int) (x1 y1 : Int) (x2 y2 : Bool) (x3 y3 : Bool) (x4 y4 : Int) (x5 y5 : Int) (x6 y6 : Int) :
    (Op.equalIn (d + 2) 28 (.agg #[.int .u8 x0, .int .u8 x1, .bool x2, .bool x3, .int .u8 x4, .int .u8 x5, .int .u8 x6]) (.agg #[.int .u8 y0, .int .u8 y1, .bool y2, .bool y3, .int .u8 y4, .int .u8 y5, .int .u8 y6])).run Try.prog w = .ok (x0 == y0 && (x1 == y1 && (x2 == y2 && (x3 == y3 && (x4 == y4 && (x5 == y5 && (x6 == y6))))))) w := by
  refine eqA_of Try.underlying28 (by kernel_rfl) ?_
  refine eqf_cons (by rfl) (by go_simp; rfl) (by go_simp; rfl) (by go_simp) ?_
  refine eqf_cons (by rfl) (by go_simp; rfl) (by go_simp; rfl) (by go_simp) ?_
  refine eqf_cons (by rfl) (by go_simp; rfl) (by go_simp; rfl) (by go_simp) ?_
  refine eqf_cons (by rfl) (by go_simp; rfl) (by go_simp; rfl) (by go_simp) ?_
  refine eqf_cons (by rfl) (by go_simp; rfl) (by go_simp; rfl) (by go_simp) ?_
  refine eqf_cons (by rfl) (by go_simp; rfl) (by go_simp; rfl) (by go_simp) ?_
  exact eqf_last (by rfl) (by go_simp; rfl) (by go_simp; rfl) (by go_simp)
attribute [local go_sem high] eqH
theorem may_wide (a0 a1 a4 a5 a6 : Int) (a2 a3 : Bool) (w : World) (h : 3 < a0 ∨ 1 < a1 ∨ 64 ≤ a4 ∨ 95 < a6 ∨ a6 < a5) :
    Calls Try.prog 14 #[.agg #[.int .u8 a0, .int .u8 a1, .bool a2, .bool a3, .int .u8 a4, .int .u8 a5, .int .u8 a6]] w fun e w' => e = .returned (.bool false) ∧ Below w.heap.size w w' := by
  by_cases c0 : 3 < a0
  · have d0 := decide_eq_true c0
    clear c0 h
    go_enter Try.func14, Try.ntmps14
    go_wp2
    go_ret
    exact ⟨rfl, (Below.refl _ _).alloc (Nat.le_refl _) _⟩
  have d0 := decide_eq_false c0
  by_cases c1 : 1 < a1
  · have d1 := decide_eq_true c1
    clear c0 c1 h
    go_enter Try.func14, Try.ntmps14
    go_wp2
    go_ret
    exact ⟨rfl, (Below.refl _ _).alloc (Nat.le_refl _) _⟩
  have d1 := decide_eq_false c1
  by_cases c4 : 64 ≤ a4
  · have d4 := decide_eq_true c4
    clear c0 c1 c4 h
    go_enter Try.func14, Try.ntmps14
    go_wp2
    go_ret
    exact ⟨rfl, (Below.refl _ _).alloc (Nat.le_refl _) _⟩
  have d4 := decide_eq_false c4
  by_cases c6 : 95 < a6
  · have d6 := decide_eq_true c6
    clear c0 c1 c4 c6 h
    go_enter Try.func14, Try.ntmps14
    go_wp2
    go_ret
    exact ⟨rfl, (Below.refl _ _).alloc (Nat.le_refl _) _⟩
  have d6 := decide_eq_false c6
  have d5 : decide (a6 < a5) = true := decide_eq_true (by omega)
  clear c0 c1 c4 c6 h
  go_enter Try.func14, Try.ntmps14
  go_wp2
  go_ret
  exact ⟨rfl, (Below.refl _ _).alloc (Nat.le_refl _) _⟩
theorem may_in (a0 a1 a4 a5 a6 : Int) (a2 a3 : Bool) (w : World) (h0 : a0 ≤ 3) (h1 : a1 ≤ 1) (h4 : a4 < 64) (h6 : a6 ≤ 95) (h5 : a5 ≤ a6) :
    Calls Try.prog 14 #[.agg #[.int .u8 a0, .int .u8 a1, .bool a2, .bool a3, .int .u8 a4, .int .u8 a5, .int .u8 a6]] w fun e w' => e = .returned (.bool (if a0 = 2 then a1 == 0 && !a2 else if a0 = 3 then !a3 else a1 == 0 && (!a2 && (!a3 && (a5 == 0 && a6 == 0))))) ∧ Below w.heap.size w w' := by
  have d0 : decide (3 < a0) = false := decide_eq_false (by omega)
  have d1 : decide (1 < a1) = false := decide_eq_false (by omega)
  have d4 : decide (64 ≤ a4) = false := decide_eq_false (by omega)
  have d6 : decide (95 < a6) = false := decide_eq_false (by omega)
  have d5 : decide (a6 < a5) = false := decide_eq_false (by omega)
  clear h0 h1 h4 h6 h5
  by_cases e2 : a0 = 2
  · rw [if_pos e2]
    have f2 : (a0 == 2) = true := beq_iff_eq.mpr e2
    clear e2
    by_cases e1 : a1 = 0
    · have f1 : (a1 == 0) = true := beq_iff_eq.mpr e1
      rw [f1]
      clear e1
      go_enter Try.func14, Try.ntmps14
      go_wp2
      go_ret
      exact ⟨by simp, ((Below.refl _ _).alloc (Nat.le_refl _) _).alloc (by simp) _⟩
    · have f1 : (a1 == 0) = false := beq_eq_false_iff_ne.mpr e1
      rw [f1]
      clear e1
      go_enter Try.func14, Try.ntmps14
      go_wp2
      go_ret
      exact ⟨by simp, ((Below.refl _ _).alloc (Nat.le_refl _) _).alloc (by simp) _⟩
  rw [if_neg e2]
  have f2 : (a0 == 2) = false := beq_eq_false_iff_ne.mpr e2
  by_cases e3 : a0 = 3
  · rw [if_pos e3]
    have f3 : (a0 == 3) = true := beq_iff_eq.mpr e3
    clear e2 e3
    go_enter Try.func14, Try.ntmps14
    go_wp2
    go_ret
    exact ⟨rfl, ((Below.refl _ _).alloc (Nat.le_refl _) _).alloc (by simp) _⟩
  · rw [if_neg e3]
    have f3 : (a0 == 3) = false := beq_eq_false_iff_ne.mpr e3
    clear e2 e3
    go_enter Try.func14, Try.ntmps14
    go_wp2
    go_ret
    exact ⟨rfl, ((Below.refl _ _).alloc (Nat.le_refl _) _).alloc (by simp) _⟩
theorem wrap_u64_at (n : Int) (h0 : 0 ≤ n) (h1 : n < 18446744073709551616) : IntKind.u64.wrap n = n := by
  rw [IntKind.wrap_u64]; omega
theorem or_nat (h l b i j : Nat) (hij : i ≤ j) (hl : l < 2 ^ i) (hb : b < 2 ^ (j - i)) : (2 ^ j * h + l) ||| (2 ^ i * b) = 2 ^ j * h + l + 2 ^ i * b := by
  have hlj : l < 2 ^ j := Nat.lt_of_lt_of_le hl (Nat.pow_le_pow_right (by decide) hij)
  have e1 : 2 ^ j * h + l = 2 ^ j * h ||| l := Nat.two_pow_add_eq_or_of_lt hlj h
  have e2 : 2 ^ i * b + l = 2 ^ i * b ||| l := Nat.two_pow_add_eq_or_of_lt hl b
  have hs : 2 ^ i * b + l < 2 ^ j := by
    have e : 2 ^ j = 2 ^ i * 2 ^ (j - i) := by rw [← Nat.pow_add]; congr 1; omega
    have : 2 ^ i * (b + 1) ≤ 2 ^ i * 2 ^ (j - i) := Nat.mul_le_mul_left _ hb
    rw [Nat.mul_add] at this
    omega
  rw [e1, Nat.or_assoc, Nat.or_comm l, ← e2, ← Nat.two_pow_add_eq_or_of_lt hs h]
  omega
theorem or_int (x n : Int) (i j : Nat) (hij : i ≤ j) (hx : 0 ≤ x) (hx1 : x < 18446744073709551616) (hl : x % 2 ^ j < 2 ^ i) (hn : 0 ≤ n) (hb : n < 2 ^ (j - i)) (hy : n * 2 ^ i < 18446744073709551616) :
    bits .or .u64 x (n * 2 ^ i) = x + n * 2 ^ i := by
  obtain ⟨a, rfl⟩ := Int.eq_ofNat_of_zero_le hx
  obtain ⟨b, rfl⟩ := Int.eq_ofNat_of_zero_le hn
  have hl' : a % 2 ^ j < 2 ^ i := by exact_mod_cast hl
  have hb' : b < 2 ^ (j - i) := by exact_mod_cast hb
  have ec : ((b : Int) * 2 ^ i) = ((b * 2 ^ i : Nat) : Int) := by simp
  rw [ec] at hy ⊢
  have hm := or_nat (a / 2 ^ j) (a % 2 ^ j) b i j hij hl' hb'
  rw [Nat.div_add_mod, Nat.mul_comm (2 ^ i) b] at hm
  generalize b * 2 ^ i = m at hy hm ⊢
  have w64 : ∀ n : Int, 0 ≤ n → n < 2 ^ 64 → IntKind.u64.wrap n = n := fun n h0 h1 => wrap_u64_at n h0 (by omega)
  rw [(bits_nat .u64 64 (by decide) w64 a m (by omega) (by omega)).2, hm]
  simp
theorem and_int (x : Int) (i : Nat) (hi : i ≤ 64) (hx : 0 ≤ x) (hx1 : x < 18446744073709551616) : bits .and .u64 x (2 ^ i - 1) = x % 2 ^ i := by
  exact bits_mask .u64 64 (by decide) (fun n h0 h1 => wrap_u64_at n h0 (by omega)) i hi x hx (by omega)
theorem put15_2 (n x : Int) (p : Addr) (w : World) (hc : w.cell? p = some (.int .u64 x)) (hf : w.frozen? p = false) (y : Int) (hy : bits BinOp.or IntKind.u64 x (IntKind.u64.wrap (IntKind.u64.wrap n * 4)) = y) :
    Calls Try.prog 15 #[.int .u8 n, .int .i64 2, .pointer (some p)] w fun e w' => e = .returned (.tuple #[]) ∧ (w.setCell p (.int .u64 y)).drew = w' := by
  have H := Aside0.mk hy
  clear hy
  go_enter Try.func15, Try.ntmps15
  go_wp2
  go_region
  all_goals
    go_end0
    rw [H.out]
    exact ⟨rfl, rfl⟩
theorem put15_5 (n x : Int) (p : Addr) (w : World) (hc : w.cell? p = some (.int .u64 x)) (hf : w.frozen? p = false) (y : Int) (hy : bits BinOp.or IntKind.u64 x (IntKind.u64.wrap (IntKind.u64.wrap n * 32)) = y) :
    Calls Try.prog 15 #[.int .u8 n, .int .i64 5, .pointer (some p)] w fun e w' => e = .returned (.tuple #[]) ∧ (w.setCell p (.int .u64 y)).drew = w' := by
  have H := Aside0.mk hy
  clear hy
  go_enter Try.func15, Try.ntmps15
  go_wp2
  go_region
  all_goals
    go_end0
    rw [H.out]
    exact ⟨rfl, rfl⟩
theorem put15_11 (n x : Int) (p : Addr) (w : World) (hc : w.cell? p = some (.int .u64 x)) (hf : w.frozen? p = false) (y : Int) (hy : bits BinOp.or IntKind.u64 x (IntKind.u64.wrap (IntKind.u64.wrap n * 2048)) = y) :
    Calls Try.prog 15 #[.int .u8 n, .int .i64 11, .pointer (some p)] w fun e w' => e = .returned (.tuple #[]) ∧ (w.setCell p (.int .u64 y)).drew = w' := by
  have H := Aside0.mk hy
  clear hy
  go_enter Try.func15, Try.ntmps15
  go_wp2
  go_region
  all_goals
    go_end0
    rw [H.out]
    exact ⟨rfl, rfl⟩
theorem put15_18 (n x : Int) (p : Addr) (w : World) (hc : w.cell? p = some (.int .u64 x)) (hf : w.frozen? p = false) (y : Int) (hy : bits BinOp.or IntKind.u64 x (IntKind.u64.wrap (IntKind.u64.wrap n * 262144)) = y) :
    Calls Try.prog 15 #[.int .u8 n, .int .i64 18, .pointer (some p)] w fun e w' => e = .returned (.tuple #[]) ∧ (w.setCell p (.int .u64 y)).drew = w' := by
  have H := Aside0.mk hy
  clear hy
  go_enter Try.func15, Try.ntmps15
  go_wp2
  go_region
  all_goals
    go_end0
    rw [H.out]
    exact ⟨rfl, rfl⟩
theorem put15_3 (n x : Int) (p : Addr) (w : World) (hc : w.cell? p = some (.int .u64 x)) (hf : w.frozen? p = false) (y : Int) (hy : bits BinOp.or IntKind.u64 x (IntKind.u64.wrap (IntKind.u64.wrap n * 8)) = y) :
    Calls Try.prog 15 #[.int .u8 n, .int .i64 3, .pointer (some p)] w fun e w' => e = .returned (.tuple #[]) ∧ (w.setCell p (.int .u64 y)).drew = w' := by
  have H := Aside0.mk hy
  clear hy
  go_enter Try.func15, Try.ntmps15
  go_wp2
  go_region
  all_goals
    go_end0
    rw [H.out]
    exact ⟨rfl, rfl⟩
theorem put15_4 (n x : Int) (p : Addr) (w : World) (hc : w.cell? p = some (.int .u64 x)) (hf : w.frozen? p = false) (y : Int) (hy : bits BinOp.or IntKind.u64 x (IntKind.u64.wrap (IntKind.u64.wrap n * 16)) = y) :
    Calls Try.prog 15 #[.int .u8 n, .int .i64 4, .pointer (some p)] w fun e w' => e = .returned (.tuple #[]) ∧ (w.setCell p (.int .u64 y)).drew = w' := by
  have H := Aside0.mk hy
  clear hy
  go_enter Try.func15, Try.ntmps15
  go_wp2
  go_region
  all_goals
    go_end0
    rw [H.out]
    exact ⟨rfl, rfl⟩
theorem take16_0 (x : Int) (p : Addr) (w : World) (hc : w.cell? p = some (.int .u64 x)) (h0 : 0 ≤ x) (h1 : x < 18446744073709551616) :
    Calls Try.prog 16 #[.int .i64 0, .int .i64 2, .pointer (some p)] w fun e w' => e = .returned (.int .u8 (x % 4)) ∧ ∃ nq, w.drewN nq = w' := by
  have e : bits BinOp.and IntKind.u64 (x) 3 % 256 = x % 4 := by
    have := and_int (x) 2 (by decide) (by omega) (by omega)
    rw [show ((2 : Int) ^ 2 - 1) = 3 by decide, show ((2 : Int) ^ 2) = 4 by decide] at this
    rw [this]; omega
  have H := Aside0.mk e
  clear e h0 h1
  go_enter Try.func16, Try.ntmps16
  go_wp2
  go_quiet (fail)
  go_wp2
  go_ret
  rw [← H.out]
  exact ⟨rfl, _, rfl⟩
theorem take16_2 (x : Int) (p : Addr) (w : World) (hc : w.cell? p = some (.int .u64 x)) (h0 : 0 ≤ x) (h1 : x < 18446744073709551616) :
    Calls Try.prog 16 #[.int .i64 2, .int .i64 1, .pointer (some p)] w fun e w' => e = .returned (.int .u8 (x / 4 % 2)) ∧ ∃ nq, w.drewN nq = w' := by
  have e : bits BinOp.and IntKind.u64 (x / 4) 1 % 256 = x / 4 % 2 := by
    have := and_int (x / 4) 1 (by decide) (by omega) (by omega)
    rw [show ((2 : Int) ^ 1 - 1) = 1 by decide, show ((2 : Int) ^ 1) = 2 by decide] at this
    rw [this]; omega
  have H := Aside0.mk e
  clear e h0 h1
  go_enter Try.func16, Try.ntmps16
  go_wp2
  go_quiet (fail)
  go_wp2
  go_ret
  rw [← H.out]
  exact ⟨rfl, _, rfl⟩
theorem take16_3 (x : Int) (p : Addr) (w : World) (hc : w.cell? p = some (.int .u64 x)) (h0 : 0 ≤ x) (h1 : x < 18446744073709551616) :
    Calls Try.prog 16 #[.int .i64 3, .int .i64 1, .pointer (some p)] w fun e w' => e = .returned (.int .u8 (x / 8 % 2)) ∧ ∃ nq, w.drewN nq = w' := by
  have e : bits BinOp.and IntKind.u64 (x / 8) 1 % 256 = x / 8 % 2 := by
    have := and_int (x / 8) 1 (by decide) (by omega) (by omega)
    rw [show ((2 : Int) ^ 1 - 1) = 1 by decide, show ((2 : Int) ^ 1) = 2 by decide] at this
    rw [this]; omega
  have H := Aside0.mk e
  clear e h0 h1
  go_enter Try.func16, Try.ntmps16
  go_wp2
  go_quiet (fail)
  go_wp2
  go_ret
  rw [← H.out]
  exact ⟨rfl, _, rfl⟩
theorem take16_4 (x : Int) (p : Addr) (w : World) (hc : w.cell? p = some (.int .u64 x)) (h0 : 0 ≤ x) (h1 : x < 18446744073709551616) :
    Calls Try.prog 16 #[.int .i64 4, .int .i64 1, .pointer (some p)] w fun e w' => e = .returned (.int .u8 (x / 16 % 2)) ∧ ∃ nq, w.drewN nq = w' := by
  have e : bits BinOp.and IntKind.u64 (x / 16) 1 % 256 = x / 16 % 2 := by
    have := and_int (x / 16) 1 (by decide) (by omega) (by omega)
    rw [show ((2 : Int) ^ 1 - 1) = 1 by decide, show ((2 : Int) ^ 1) = 2 by decide] at this
    rw [this]; omega
  have H := Aside0.mk e
  clear e h0 h1
  go_enter Try.func16, Try.ntmps16
  go_wp2
  go_quiet (fail)
  go_wp2
  go_ret
  rw [← H.out]
  exact ⟨rfl, _, rfl⟩
theorem take16_5 (x : Int) (p : Addr) (w : World) (hc : w.cell? p = some (.int .u64 x)) (h0 : 0 ≤ x) (h1 : x < 18446744073709551616) :
    Calls Try.prog 16 #[.int .i64 5, .int .i64 6, .pointer (some p)] w fun e w' => e = .returned (.int .u8 (x / 32 % 64)) ∧ ∃ nq, w.drewN nq = w' := by
  have e : bits BinOp.and IntKind.u64 (x / 32) 63 % 256 = x / 32 % 64 := by
    have := and_int (x / 32) 6 (by decide) (by omega) (by omega)
    rw [show ((2 : Int) ^ 6 - 1) = 63 by decide, show ((2 : Int) ^ 6) = 64 by decide] at this
    rw [this]; omega
  have H := Aside0.mk e
  clear e h0 h1
  go_enter Try.func16, Try.ntmps16
  go_wp2
  go_quiet (fail)
  go_wp2
  go_ret
  rw [← H.out]
  exact ⟨rfl, _, rfl⟩
theorem take16_11 (x : Int) (p : Addr) (w : World) (hc : w.cell? p = some (.int .u64 x)) (h0 : 0 ≤ x) (h1 : x < 18446744073709551616) :
    Calls Try.prog 16 #[.int .i64 11, .int .i64 7, .pointer (some p)] w fun e w' => e = .returned (.int .u8 (x / 2048 % 128)) ∧ ∃ nq, w.drewN nq = w' := by
  have e : bits BinOp.and IntKind.u64 (x / 2048) 127 % 256 = x / 2048 % 128 := by
    have := and_int (x / 2048) 7 (by decide) (by omega) (by omega)
    rw [show ((2 : Int) ^ 7 - 1) = 127 by decide, show ((2 : Int) ^ 7) = 128 by decide] at this
    rw [this]; omega
  have H := Aside0.mk e
  clear e h0 h1
  go_enter Try.func16, Try.ntmps16
  go_wp2
  go_quiet (fail)
  go_wp2
  go_ret
  rw [← H.out]
  exact ⟨rfl, _, rfl⟩
theorem take16_18 (x : Int) (p : Addr) (w : World) (hc : w.cell? p = some (.int .u64 x)) (h0 : 0 ≤ x) (h1 : x < 18446744073709551616) :
    Calls Try.prog 16 #[.int .i64 18, .int .i64 7, .pointer (some p)] w fun e w' => e = .returned (.int .u8 (x / 262144 % 128)) ∧ ∃ nq, w.drewN nq = w' := by
  have e : bits BinOp.and IntKind.u64 (x / 262144) 127 % 256 = x / 262144 % 128 := by
    have := and_int (x / 262144) 7 (by decide) (by omega) (by omega)
    rw [show ((2 : Int) ^ 7 - 1) = 127 by decide, show ((2 : Int) ^ 7) = 128 by decide] at this
    rw [this]; omega
  have H := Aside0.mk e
  clear e h0 h1
  go_enter Try.func16, Try.ntmps16
  go_wp2
  go_quiet (fail)
  go_wp2
  go_ret
  rw [← H.out]
  exact ⟨rfl, _, rfl⟩
theorem put_no (a0 a1 a4 a5 a6 : Int) (a2 a3 : Bool) (w : World) (hm : ∀ w, Calls Try.prog 14 #[.agg #[.int .u8 a0, .int .u8 a1, .bool a2, .bool a3, .int .u8 a4, .int .u8 a5, .int .u8 a6]] w fun e w' => e = .returned (.bool false) ∧ Below w.heap.size w w') :
    Calls Try.prog 6 #[.agg #[.int .u8 a0, .int .u8 a1, .bool a2, .bool a3, .int .u8 a4, .int .u8 a5, .int .u8 a6]] w fun e w' => e = .returned (.tuple #[.int .u64 0, .int .i64 2]) ∧ Below w.heap.size w w' := by
  have HM := Aside0.mk hm
  clear hm
  go_enter Try.func6, Try.ntmps6
  go_wp2_with (first | (go_at_call 14; (with_reducible refine (HM.out _).mono ?_); rintro e w' ⟨rfl, hb⟩))
  go_ret2
  exact ⟨rfl, ((Below.refl _ _).alloc (Nat.le_refl _) _).trans (hb.mono (by simp))⟩
set_option maxHeartbeats 4000000 in
theorem put_ff (a0 a1 a4 a5 a6 : Int) (w : World) (hm : ∀ w, Calls Try.prog 14 #[.agg #[.int .u8 a0, .int .u8 a1, .bool false, .bool false, .int .u8 a4, .int .u8 a5, .int .u8 a6]] w fun e w' => e = .returned (.bool true) ∧ Below w.heap.size w w') (y1 y2 y3 y4 : Int)
    (e1 : bits BinOp.or IntKind.u64 (IntKind.u64.wrap a0) (IntKind.u64.wrap (IntKind.u64.wrap a1 * 4)) = y1)
    (e2 : bits BinOp.or IntKind.u64 y1 (IntKind.u64.wrap (IntKind.u64.wrap a4 * 32)) = y2)
    (e3 : bits BinOp.or IntKind.u64 y2 (IntKind.u64.wrap (IntKind.u64.wrap a5 * 2048)) = y3)
    (e4 : bits BinOp.or IntKind.u64 y3 (IntKind.u64.wrap (IntKind.u64.wrap a6 * 262144)) = y4) :
    Calls Try.prog 6 #[.agg #[.int .u8 a0, .int .u8 a1, .bool false, .bool false, .int .u8 a4, .int .u8 a5, .int .u8 a6]] w fun e w' => e = .returned (.tuple #[.int .u64 y4, .int .i64 0]) ∧ Below w.heap.size w w' := by
  have HM := Aside0.mk hm
  have E1 := Aside0.mk e1
  have E2 := Aside0.mk e2
  have E3 := Aside0.mk e3
  have E4 := Aside0.mk e4
  clear hm e1 e2 e3 e4
  have hmf : ∀ (fn : Fn) (first cap : Array Value) (w : World), (Instr.makeFunc fn first cap).run Try.prog w = .ok (.func fn first cap) w := fun _ _ _ _ => rfl
  go_enter Try.func6, Try.ntmps6
  go_wp2_with fail
  refine (HM.out _).mono ?_
  rintro e w' ⟨rfl, hb⟩
  have hc0 : w'.cell? ⟨w.heap.size, 0, none⟩ = some (.int .u8 a0) := by rw [hb.cell (p := ⟨w.heap.size, 0, none⟩) (by simp)]; go_simp
  have hc1 : w'.cell? ⟨w.heap.size, 1, none⟩ = some (.int .u8 a1) := by rw [hb.cell (p := ⟨w.heap.size, 1, none⟩) (by simp)]; go_simp
  have hc2 : w'.cell? ⟨w.heap.size, 2, none⟩ = some (.bool false) := by rw [hb.cell (p := ⟨w.heap.size, 2, none⟩) (by simp)]; go_simp
  have hc3 : w'.cell? ⟨w.heap.size, 3, none⟩ = some (.bool false) := by rw [hb.cell (p := ⟨w.heap.size, 3, none⟩) (by simp)]; go_simp
  have hc4 : w'.cell? ⟨w.heap.size, 4, none⟩ = some (.int .u8 a4) := by rw [hb.cell (p := ⟨w.heap.size, 4, none⟩) (by simp)]; go_simp
  have hc5 : w'.cell? ⟨w.heap.size, 5, none⟩ = some (.int .u8 a5) := by rw [hb.cell (p := ⟨w.heap.size, 5, none⟩) (by simp)]; go_simp
  have hc6 : w'.cell? ⟨w.heap.size, 6, none⟩ = some (.int .u8 a6) := by rw [hb.cell (p := ⟨w.heap.size, 6, none⟩) (by simp)]; go_simp
  have hz : w.heap.size < w'.heap.size := by have := hb.size; simp at this; omega
  go_wp2_with fail
  refine (put15_2 _ _ _ _ (by go_simp) (by go_simp) _ E1.out).mono ?_
  rintro e w2 ⟨rfl, rfl⟩
  go_wp2_with fail
  refine (put15_5 _ _ _ _ (by go_simp) (by go_simp) _ E2.out).mono ?_
  rintro e w2 ⟨rfl, rfl⟩
  go_wp2_with fail
  refine (put15_11 _ _ _ _ (by go_simp) (by go_simp) _ E3.out).mono ?_
  rintro e w2 ⟨rfl, rfl⟩
  go_wp2_with fail
  refine (put15_18 _ _ _ _ (by go_simp) (by go_simp) _ E4.out).mono ?_
  rintro e w2 ⟨rfl, rfl⟩
  go_wp2
  go_ret2
  exact ⟨rfl, by repeat (first | exact ((Below.refl _ _).alloc (Nat.le_refl _) _).trans (hb.mono (by simp)) | (refine Below.drew ?_) | (refine Below.alloc ?_ (Nat.le_of_lt hz) _))⟩
set_option maxHeartbeats 4000000 in
theorem put_ft (a0 a1 a4 a5 a6 : Int) (w : World) (hm : ∀ w, Calls Try.prog 14 #[.agg #[.int .u8 a0, .int .u8 a1, .bool false, .bool true, .int .u8 a4, .int .u8 a5, .int .u8 a6]] w fun e w' => e = .returned (.bool true) ∧ Below w.heap.size w w') (y1 y2 y3 y4 y5 : Int)
    (e1 : bits BinOp.or IntKind.u64 (IntKind.u64.wrap a0) (IntKind.u64.wrap (IntKind.u64.wrap a1 * 4)) = y1)
    (e2 : bits BinOp.or IntKind.u64 y1 (IntKind.u64.wrap (IntKind.u64.wrap a4 * 32)) = y2)
    (e3 : bits BinOp.or IntKind.u64 y2 (IntKind.u64.wrap (IntKind.u64.wrap a5 * 2048)) = y3)
    (e4 : bits BinOp.or IntKind.u64 y3 (IntKind.u64.wrap (IntKind.u64.wrap a6 * 262144)) = y4)
    (e5 : bits BinOp.or IntKind.u64 y4 (IntKind.u64.wrap (IntKind.u64.wrap 1 * 16)) = y5) :
    Calls Try.prog 6 #[.agg #[.int .u8 a0, .int .u8 a1, .bool false, .bool true, .int .u8 a4, .int .u8 a5, .int .u8 a6]] w fun e w' => e = .returned (.tuple #[.int .u64 y5, .int .i64 0]) ∧ Below w.heap.size w w' := by
  have HM := Aside0.mk hm
  have E1 := Aside0.mk e1
  have E2 := Aside0.mk e2
  have E3 := Aside0.mk e3
  have E4 := Aside0.mk e4
  have E5 := Aside0.mk e5
  clear hm e1 e2 e3 e4 e5
  have hmf : ∀ (fn : Fn) (first cap : Array Value) (w : World), (Instr.makeFunc fn first cap).run Try.prog w = .ok (.func fn first cap) w := fun _ _ _ _ => rfl
  go_enter Try.func6, Try.ntmps6
  go_wp2_with fail
  refine (HM.out _).mono ?_
  rintro e w' ⟨rfl, hb⟩
  have hc0 : w'.cell? ⟨w.heap.size, 0, none⟩ = some (.int .u8 a0) := by rw [hb.cell (p := ⟨w.heap.size, 0, none⟩) (by simp)]; go_simp
  have hc1 : w'.cell? ⟨w.heap.size, 1, none⟩ = some (.int .u8 a1) := by rw [hb.cell (p := ⟨w.heap.size, 1, none⟩) (by simp)]; go_simp
  have hc2 : w'.cell? ⟨w.heap.size, 2, none⟩ = some (.bool false) := by rw [hb.cell (p := ⟨w.heap.size, 2, none⟩) (by simp)]; go_simp
  have hc3 : w'.cell? ⟨w.heap.size, 3, none⟩ = some (.bool true) := by rw [hb.cell (p := ⟨w.heap.size, 3, none⟩) (by simp)]; go_simp
  have hc4 : w'.cell? ⟨w.heap.size, 4, none⟩ = some (.int .u8 a4) := by rw [hb.cell (p := ⟨w.heap.size, 4, none⟩) (by simp)]; go_simp
  have hc5 : w'.cell? ⟨w.heap.size, 5, none⟩ = some (.int .u8 a5) := by rw [hb.cell (p := ⟨w.heap.size, 5, none⟩) (by simp)]; go_simp
  have hc6 : w'.cell? ⟨w.heap.size, 6, none⟩ = some (.int .u8 a6) := by rw [hb.cell (p := ⟨w.heap.size, 6, none⟩) (by simp)]; go_simp
  have hz : w.heap.size < w'.heap.size := by have := hb.size; simp at this; omega
  go_wp2_with fail
  refine (put15_2 _ _ _ _ (by go_simp) (by go_simp) _ E1.out).mono ?_
  rintro e w2 ⟨rfl, rfl⟩
  go_wp2_with fail
  refine (put15_5 _ _ _ _ (by go_simp) (by go_simp) _ E2.out).mono ?_
  rintro e w2 ⟨rfl, rfl⟩
  go_wp2_with fail
  refine (put15_11 _ _ _ _ (by go_simp) (by go_simp) _ E3.out).mono ?_
  rintro e w2 ⟨rfl, rfl⟩
  go_wp2_with fail
  refine (put15_18 _ _ _ _ (by go_simp) (by go_simp) _ E4.out).mono ?_
  rintro e w2 ⟨rfl, rfl⟩
  go_wp2_with fail
  refine (put15_4 _ _ _ _ (by go_simp) (by go_simp) _ E5.out).mono ?_
  rintro e w2 ⟨rfl, rfl⟩
  go_wp2
  go_ret2
  exact ⟨rfl, by repeat (first | exact ((Below.refl _ _).alloc (Nat.le_refl _) _).trans (hb.mono (by simp)) | (refine Below.drew ?_) | (refine Below.alloc ?_ (Nat.le_of_lt hz) _))⟩
set_option maxHeartbeats 4000000 in
theorem put_tf (a0 a1 a4 a5 a6 : Int) (w : World) (hm : ∀ w, Calls Try.prog 14 #[.agg #[.int .u8 a0, .int .u8 a1, .bool true, .bool false, .int .u8 a4, .int .u8 a5, .int .u8 a6]] w fun e w' => e = .returned (.bool true) ∧ Below w.heap.size w w') (y1 y2 y3 y4 y5 : Int)
    (e1 : bits BinOp.or IntKind.u64 (IntKind.u64.wrap a0) (IntKind.u64.wrap (IntKind.u64.wrap a1 * 4)) = y1)
    (e2 : bits BinOp.or IntKind.u64 y1 (IntKind.u64.wrap (IntKind.u64.wrap a4 * 32)) = y2)
    (e3 : bits BinOp.or IntKind.u64 y2 (IntKind.u64.wrap (IntKind.u64.wrap a5 * 2048)) = y3)
    (e4 : bits BinOp.or IntKind.u64 y3 (IntKind.u64.wrap (IntKind.u64.wrap a6 * 262144)) = y4)
    (e5 : bits BinOp.or IntKind.u64 y4 (IntKind.u64.wrap (IntKind.u64.wrap 1 * 8)) = y5) :
    Calls Try.prog 6 #[.agg #[.int .u8 a0, .int .u8 a1, .bool true, .bool false, .int .u8 a4, .int .u8 a5, .int .u8 a6]] w fun e w' => e = .returned (.tuple #[.int .u64 y5, .int .i64 0]) ∧ Below w.heap.size w w' := by
  have HM := Aside0.mk hm
  have E1 := Aside0.mk e1
  have E2 := Aside0.mk e2
  have E3 := Aside0.mk e3
  have E4 := Aside0.mk e4
  have E5 := Aside0.mk e5
  clear hm e1 e2 e3 e4 e5
  have hmf : ∀ (fn : Fn) (first cap : Array Value) (w : World), (Instr.makeFunc fn first cap).run Try.prog w = .ok (.func fn first cap) w := fun _ _ _ _ => rfl
  go_enter Try.func6, Try.ntmps6
  go_wp2_with fail
  refine (HM.out _).mono ?_
  rintro e w' ⟨rfl, hb⟩
  have hc0 : w'.cell? ⟨w.heap.size, 0, none⟩ = some (.int .u8 a0) := by rw [hb.cell (p := ⟨w.heap.size, 0, none⟩) (by simp)]; go_simp
  have hc1 : w'.cell? ⟨w.heap.size, 1, none⟩ = some (.int .u8 a1) := by rw [hb.cell (p := ⟨w.heap.size, 1, none⟩) (by simp)]; go_simp
  have hc2 : w'.cell? ⟨w.heap.size, 2, none⟩ = some (.bool true) := by rw [hb.cell (p := ⟨w.heap.size, 2, none⟩) (by simp)]; go_simp
  have hc3 : w'.cell? ⟨w.heap.size, 3, none⟩ = some (.bool false) := by rw [hb.cell (p := ⟨w.heap.size, 3, none⟩) (by simp)]; go_simp
  have hc4 : w'.cell? ⟨w.heap.size, 4, none⟩ = some (.int .u8 a4) := by rw [hb.cell (p := ⟨w.heap.size, 4, none⟩) (by simp)]; go_simp
  have hc5 : w'.cell? ⟨w.heap.size, 5, none⟩ = some (.int .u8 a5) := by rw [hb.cell (p := ⟨w.heap.size, 5, none⟩) (by simp)]; go_simp
  have hc6 : w'.cell? ⟨w.heap.size, 6, none⟩ = some (.int .u8 a6) := by rw [hb.cell (p := ⟨w.heap.size, 6, none⟩) (by simp)]; go_simp
  have hz : w.heap.size < w'.heap.size := by have := hb.size; simp at this; omega
  go_wp2_with fail
  refine (put15_2 _ _ _ _ (by go_simp) (by go_simp) _ E1.out).mono ?_
  rintro e w2 ⟨rfl, rfl⟩
  go_wp2_with fail
  refine (put15_5 _ _ _ _ (by go_simp) (by go_simp) _ E2.out).mono ?_
  rintro e w2 ⟨rfl, rfl⟩
  go_wp2_with fail
  refine (put15_11 _ _ _ _ (by go_simp) (by go_simp) _ E3.out).mono ?_
  rintro e w2 ⟨rfl, rfl⟩
  go_wp2_with fail
  refine (put15_18 _ _ _ _ (by go_simp) (by go_simp) _ E4.out).mono ?_
  rintro e w2 ⟨rfl, rfl⟩
  go_wp2_with fail
  refine (put15_3 _ _ _ _ (by go_simp) (by go_simp) _ E5.out).mono ?_
  rintro e w2 ⟨rfl, rfl⟩
  go_wp2
  go_ret2
  exact ⟨rfl, by repeat (first | exact ((Below.refl _ _).alloc (Nat.le_refl _) _).trans (hb.mono (by simp)) | (refine Below.drew ?_) | (refine Below.alloc ?_ (Nat.le_of_lt hz) _))⟩
set_option maxHeartbeats 4000000 in
theorem put_tt (a0 a1 a4 a5 a6 : Int) (w : World) (hm : ∀ w, Calls Try.prog 14 #[.agg #[.int .u8 a0, .int .u8 a1, .bool true, .bool true, .int .u8 a4, .int .u8 a5, .int .u8 a6]] w fun e w' => e = .returned (.bool true) ∧ Below w.heap.size w w') (y1 y2 y3 y4 y5 y6 : Int)
    (e1 : bits BinOp.or IntKind.u64 (IntKind.u64.wrap a0) (IntKind.u64.wrap (IntKind.u64.wrap a1 * 4)) = y1)
    (e2 : bits BinOp.or IntKind.u64 y1 (IntKind.u64.wrap (IntKind.u64.wrap a4 * 32)) = y2)
    (e3 : bits BinOp.or IntKind.u64 y2 (IntKind.u64.wrap (IntKind.u64.wrap a5 * 2048)) = y3)
    (e4 : bits BinOp.or IntKind.u64 y3 (IntKind.u64.wrap (IntKind.u64.wrap a6 * 262144)) = y4)
    (e5 : bits BinOp.or IntKind.u64 y4 (IntKind.u64.wrap (IntKind.u64.wrap 1 * 8)) = y5)
    (e6 : bits BinOp.or IntKind.u64 y5 (IntKind.u64.wrap (IntKind.u64.wrap 1 * 16)) = y6) :
    Calls Try.prog 6 #[.agg #[.int .u8 a0, .int .u8 a1, .bool true, .bool true, .int .u8 a4, .int .u8 a5, .int .u8 a6]] w fun e w' => e = .returned (.tuple #[.int .u64 y6, .int .i64 0]) ∧ Below w.heap.size w w' := by
  have HM := Aside0.mk hm
  have E1 := Aside0.mk e1
  have E2 := Aside0.mk e2
  have E3 := Aside0.mk e3
  have E4 := Aside0.mk e4
  have E5 := Aside0.mk e5
  have E6 := Aside0.mk e6
  clear hm e1 e2 e3 e4 e5 e6
  have hmf : ∀ (fn : Fn) (first cap : Array Value) (w : World), (Instr.makeFunc fn first cap).run Try.prog w = .ok (.func fn first cap) w := fun _ _ _ _ => rfl
  go_enter Try.func6, Try.ntmps6
  go_wp2_with fail
  refine (HM.out _).mono ?_
  rintro e w' ⟨rfl, hb⟩
  have hc0 : w'.cell? ⟨w.heap.size, 0, none⟩ = some (.int .u8 a0) := by rw [hb.cell (p := ⟨w.heap.size, 0, none⟩) (by simp)]; go_simp
  have hc1 : w'.cell? ⟨w.heap.size, 1, none⟩ = some (.int .u8 a1) := by rw [hb.cell (p := ⟨w.heap.size, 1, none⟩) (by simp)]; go_simp
  have hc2 : w'.cell? ⟨w.heap.size, 2, none⟩ = some (.bool true) := by rw [hb.cell (p := ⟨w.heap.size, 2, none⟩) (by simp)]; go_simp
  have hc3 : w'.cell? ⟨w.heap.size, 3, none⟩ = some (.bool true) := by rw [hb.cell (p := ⟨w.heap.size, 3, none⟩) (by simp)]; go_simp
  have hc4 : w'.cell? ⟨w.heap.size, 4, none⟩ = some (.int .u8 a4) := by rw [hb.cell (p := ⟨w.heap.size, 4, none⟩) (by simp)]; go_simp
  have hc5 : w'.cell? ⟨w.heap.size, 5, none⟩ = some (.int .u8 a5) := by rw [hb.cell (p := ⟨w.heap.size, 5, none⟩) (by simp)]; go_simp
  have hc6 : w'.cell? ⟨w.heap.size, 6, none⟩ = some (.int .u8 a6) := by rw [hb.cell (p := ⟨w.heap.size, 6, none⟩) (by simp)]; go_simp
  have hz : w.heap.size < w'.heap.size := by have := hb.size; simp at this; omega
  go_wp2_with fail
  refine (put15_2 _ _ _ _ (by go_simp) (by go_simp) _ E1.out).mono ?_
  rintro e w2 ⟨rfl, rfl⟩
  go_wp2_with fail
  refine (put15_5 _ _ _ _ (by go_simp) (by go_simp) _ E2.out).mono ?_
  rintro e w2 ⟨rfl, rfl⟩
  go_wp2_with fail
  refine (put15_11 _ _ _ _ (by go_simp) (by go_simp) _ E3.out).mono ?_
  rintro e w2 ⟨rfl, rfl⟩
  go_wp2_with fail
  refine (put15_18 _ _ _ _ (by go_simp) (by go_simp) _ E4.out).mono ?_
  rintro e w2 ⟨rfl, rfl⟩
  go_wp2_with fail
  refine (put15_3 _ _ _ _ (by go_simp) (by go_simp) _ E5.out).mono ?_
  rintro e w2 ⟨rfl, rfl⟩
  go_wp2_with fail
  refine (put15_4 _ _ _ _ (by go_simp) (by go_simp) _ E6.out).mono ?_
  rintro e w2 ⟨rfl, rfl⟩
  go_wp2
  go_ret2
  exact ⟨rfl, by repeat (first | exact ((Below.refl _ _).alloc (Nat.le_refl _) _).trans (hb.mono (by simp)) | (refine Below.drew ?_) | (refine Below.alloc ?_ (Nat.le_of_lt hz) _))⟩
theorem or_at (x n p q r : Int) (i j : Nat) (hij : i ≤ j) (hp : (2 : Int) ^ i = p) (hq : (2 : Int) ^ j = q) (hr : (2 : Int) ^ (j - i) = r) (hx : 0 ≤ x) (hx1 : x < 18446744073709551616) (hl : x % q < p) (hn : 0 ≤ n) (hb : n < r) (hy : n * p < 18446744073709551616) (hy0 : 0 ≤ n * p) (hn1 : n < 18446744073709551616) :
    bits .or .u64 x (IntKind.u64.wrap (IntKind.u64.wrap n * p)) = x + n * p := by
  subst hp hq hr
  rw [wrap_u64_at n hn hn1, wrap_u64_at _ hy0 hy]
  exact or_int x n i j hij hx hx1 hl hn hb hy
def mayp (a0 a1 : Int) (a2 a3 : Bool) (a4 a5 a6 : Int) : Bool :=
  if 3 < a0 ∨ 1 < a1 ∨ 64 ≤ a4 ∨ 95 < a6 ∨ a6 < a5 then false else if a0 = 2 then a1 == 0 && !a2 else if a0 = 3 then !a3 else a1 == 0 && (!a2 && (!a3 && (a5 == 0 && a6 == 0)))
theorem may_any (a0 a1 : Int) (a2 a3 : Bool) (a4 a5 a6 : Int) (w : World) :
    Calls Try.prog 14 #[.agg #[.int .u8 a0, .int .u8 a1, .bool a2, .bool a3, .int .u8 a4, .int .u8 a5, .int .u8 a6]] w fun e w' => e = .returned (.bool (mayp a0 a1 a2 a3 a4 a5 a6)) ∧ Below w.heap.size w w' := by
  unfold mayp
  by_cases h : 3 < a0 ∨ 1 < a1 ∨ 64 ≤ a4 ∨ 95 < a6 ∨ a6 < a5
  · rw [if_pos h]; exact may_wide a0 a1 a4 a5 a6 a2 a3 w h
  · rw [if_neg h]; exact may_in a0 a1 a4 a5 a6 a2 a3 w (by omega) (by omega) (by omega) (by omega) (by omega)
theorem mayp_bd {a0 a1 : Int} {a2 a3 : Bool} {a4 a5 a6 : Int} (h : mayp a0 a1 a2 a3 a4 a5 a6 = true) : a0 ≤ 3 ∧ a1 ≤ 1 ∧ a4 < 64 ∧ a6 ≤ 95 ∧ a5 ≤ a6 := by
  unfold mayp at h
  by_cases c : 3 < a0 ∨ 1 < a1 ∨ 64 ≤ a4 ∨ 95 < a6 ∨ a6 < a5
  · rw [if_pos c] at h; cases h
  · omega
def bit (b : Bool) (n : Int) : Int := if b = true then n else 0
def wordp (a0 a1 : Int) (a2 a3 : Bool) (a4 a5 a6 : Int) : Int := a0 + 4 * a1 + 32 * a4 + 2048 * a5 + 262144 * a6 + bit a2 8 + bit a3 16
def putp (a0 a1 : Int) (a2 a3 : Bool) (a4 a5 a6 : Int) : Option (Int × Int) :=
  if mayp a0 a1 a2 a3 a4 a5 a6 = true then (if 0 ≤ a0 ∧ 0 ≤ a1 ∧ 0 ≤ a4 ∧ 0 ≤ a5 ∧ 0 ≤ a6 then some (wordp a0 a1 a2 a3 a4 a5 a6, 0) else none) else some (0, 2)
theorem put_any (a0 a1 : Int) (a2 a3 : Bool) (a4 a5 a6 r1 r2 : Int) (w : World) (h : putp a0 a1 a2 a3 a4 a5 a6 = some (r1, r2)) :
    Calls Try.prog 6 #[.agg #[.int .u8 a0, .int .u8 a1, .bool a2, .bool a3, .int .u8 a4, .int .u8 a5, .int .u8 a6]] w fun e w' => e = .returned (.tuple #[.int .u64 r1, .int .i64 r2]) ∧ Below w.heap.size w w' := by
  unfold putp at h
  by_cases hm : mayp a0 a1 a2 a3 a4 a5 a6 = true
  · rw [if_pos hm] at h
    by_cases hb : 0 ≤ a0 ∧ 0 ≤ a1 ∧ 0 ≤ a4 ∧ 0 ≤ a5 ∧ 0 ≤ a6
    · rw [if_pos hb] at h
      simp only [Option.some.injEq, Prod.mk.injEq] at h
      obtain ⟨rfl, rfl⟩ := h
      obtain ⟨b0, b1, b4, b6, b5⟩ := mayp_bd hm
      obtain ⟨z0, z1, z4, z5, z6⟩ := hb
      have e1 := or_at a0 a1 4 8 2 2 3 (by decide) (by decide) (by decide) (by decide) (by omega) (by omega) (by omega) (by omega) (by omega) (by omega) (by omega) (by omega)
      have e2 := or_at (a0 + a1 * 4) a4 32 2048 64 5 11 (by decide) (by decide) (by decide) (by decide) (by omega) (by omega) (by omega) (by omega) (by omega) (by omega) (by omega) (by omega)
      have e3 := or_at (a0 + a1 * 4 + a4 * 32) a5 2048 262144 128 11 18 (by decide) (by decide) (by decide) (by decide) (by omega) (by omega) (by omega) (by omega) (by omega) (by omega) (by omega) (by omega)
      have e4 := or_at (a0 + a1 * 4 + a4 * 32 + a5 * 2048) a6 262144 33554432 128 18 25 (by decide) (by decide) (by decide) (by decide) (by omega) (by omega) (by omega) (by omega) (by omega) (by omega) (by omega) (by omega)
      have e5 := or_at (a0 + a1 * 4 + a4 * 32 + a5 * 2048 + a6 * 262144) 1 8 16 2 3 4 (by decide) (by decide) (by decide) (by decide) (by omega) (by omega) (by omega) (by omega) (by omega) (by omega) (by omega) (by omega)
      have e6 := or_at (a0 + a1 * 4 + a4 * 32 + a5 * 2048 + a6 * 262144 + 1 * 8) 1 16 32 2 4 5 (by decide) (by decide) (by decide) (by decide) (by omega) (by omega) (by omega) (by omega) (by omega) (by omega) (by omega) (by omega)
      have e7 := or_at (a0 + a1 * 4 + a4 * 32 + a5 * 2048 + a6 * 262144) 1 16 32 2 4 5 (by decide) (by decide) (by decide) (by decide) (by omega) (by omega) (by omega) (by omega) (by omega) (by omega) (by omega) (by omega)
      have hM : ∀ w, Calls Try.prog 14 #[.agg #[.int .u8 a0, .int .u8 a1, .bool a2, .bool a3, .int .u8 a4, .int .u8 a5, .int .u8 a6]] w fun e w' => e = .returned (.bool true) ∧ Below w.heap.size w w' := fun w => by
        rw [← hm]; exact may_any a0 a1 a2 a3 a4 a5 a6 w
      rw [← wrap_u64_at a0 z0 (by omega)] at e1
      have e0 : IntKind.u64.wrap a0 + a1 * 4 = a0 + a1 * 4 := by rw [wrap_u64_at a0 z0 (by omega)]
      rw [e0] at e1
      cases a2 <;> cases a3
      · rw [show wordp a0 a1 false false a4 a5 a6 = a0 + a1 * 4 + a4 * 32 + a5 * 2048 + a6 * 262144 by unfold wordp bit; simp; omega]
        exact put_ff a0 a1 a4 a5 a6 w hM _ _ _ _ e1 e2 e3 e4
      · rw [show wordp a0 a1 false true a4 a5 a6 = a0 + a1 * 4 + a4 * 32 + a5 * 2048 + a6 * 262144 + 1 * 16 by unfold wordp bit; simp; omega]
        exact put_ft a0 a1 a4 a5 a6 w hM _ _ _ _ _ e1 e2 e3 e4 e7
      · rw [show wordp a0 a1 true false a4 a5 a6 = a0 + a1 * 4 + a4 * 32 + a5 * 2048 + a6 * 262144 + 1 * 8 by unfold wordp bit; simp; omega]
        exact put_tf a0 a1 a4 a5 a6 w hM _ _ _ _ _ e1 e2 e3 e4 e5
      · rw [show wordp a0 a1 true true a4 a5 a6 = a0 + a1 * 4 + a4 * 32 + a5 * 2048 + a6 * 262144 + 1 * 8 + 1 * 16 by unfold wordp bit; simp; omega]
        exact put_tt a0 a1 a4 a5 a6 w hM _ _ _ _ _ _ e1 e2 e3 e4 e5 e6
    · rw [if_neg hb] at h; cases h
  · rw [if_neg hm] at h
    simp only [Option.some.injEq, Prod.mk.injEq] at h
    obtain ⟨rfl, rfl⟩ := h
    have hf : mayp a0 a1 a2 a3 a4 a5 a6 = false := by simpa using hm
    exact put_no a0 a1 a4 a5 a6 a2 a3 w (fun w => by rw [← hf]; exact may_any a0 a1 a2 a3 a4 a5 a6 w)
set_option maxHeartbeats 4000000 in
theorem take_no (x p q : Int) (w : World) (h0 : 0 ≤ x) (h1 : x < 18446744073709551616) (hp : putp (x % 4) (x / 4 % 2) (x / 8 % 2 == 1) (x / 16 % 2 == 1) (x / 32 % 64) (x / 2048 % 128) (x / 262144 % 128) = some (p, q)) (hn : ¬ q = 0 ∨ ¬ p = x) :
    Calls Try.prog 12 #[.int .u64 x] w fun e w' => e = .returned (.tuple #[.agg #[.int .u8 0, .int .u8 0, .bool false, .bool false, .int .u8 0, .int .u8 0, .int .u8 0], .int .i64 3]) ∧ Below w.heap.size w w' := by
  have HP := Aside0.mk hp
  have H0 := Aside0.mk h0
  have H1 := Aside0.mk h1
  have HN := Aside0.mk hn
  clear hp h0 h1 hn
  have hmf : ∀ (fn : Fn) (first cap : Array Value) (w : World), (Instr.makeFunc fn first cap).run Try.prog w = .ok (.func fn first cap) w := fun _ _ _ _ => rfl
  go_enter Try.func12, Try.ntmps12
  go_wp2_with fail
  refine (take16_0 _ _ _ (by go_simp) H0.out H1.out).mono ?_
  rintro e w2 ⟨rfl, nq0, rfl⟩
  go_wp2_with fail
  refine (take16_2 _ _ _ (by go_simp) H0.out H1.out).mono ?_
  rintro e w2 ⟨rfl, nq1, rfl⟩
  go_wp2_with fail
  refine (take16_3 _ _ _ (by go_simp) H0.out H1.out).mono ?_
  rintro e w2 ⟨rfl, nq2, rfl⟩
  go_wp2_with fail
  refine (take16_4 _ _ _ (by go_simp) H0.out H1.out).mono ?_
  rintro e w2 ⟨rfl, nq3, rfl⟩
  go_wp2_with fail
  refine (take16_5 _ _ _ (by go_simp) H0.out H1.out).mono ?_
  rintro e w2 ⟨rfl, nq4, rfl⟩
  go_wp2_with fail
  refine (take16_11 _ _ _ (by go_simp) H0.out H1.out).mono ?_
  rintro e w2 ⟨rfl, nq5, rfl⟩
  go_wp2_with fail
  refine (take16_18 _ _ _ (by go_simp) H0.out H1.out).mono ?_
  rintro e w2 ⟨rfl, nq6, rfl⟩
  go_wp2_with fail
  refine (put_any _ _ _ _ _ _ _ p q _ HP.out).mono ?_
  rintro e w3 ⟨rfl, hb⟩
  have cx : w3.cell? ⟨w.heap.size, 0, none⟩ = some (.int .u64 x) := by rw [hb.cell (p := ⟨w.heap.size, 0, none⟩) (by simp; omega)]; go_simp
  have BR : w3.heap[w.heap.size + 1]? = some (.cells #[.int .u8 0, .int .u8 0, .bool false, .bool false, .int .u8 0, .int .u8 0, .int .u8 0] 28 (0, 0)) := blk_below (by rw [show w.heap.size + 1 = (w.alloc (.cells #[.int .u64 x] 24)).heap.size by simp]; exact blk_alloc (blk_drewN (blk_new _ _) _) _) hb
  have cr0 : w3.cell? ⟨w.heap.size + 1, 0, none⟩ = some (.int .u8 0) := (blk_cell BR 0).trans rfl
  have fr0 : w3.frozen? ⟨w.heap.size + 1, 0, none⟩ = false := blk_frozen BR 0
  have cr1 : w3.cell? ⟨w.heap.size + 1, 1, none⟩ = some (.int .u8 0) := (blk_cell BR 1).trans rfl
  have fr1 : w3.frozen? ⟨w.heap.size + 1, 1, none⟩ = false := blk_frozen BR 1
  have cr2 : w3.cell? ⟨w.heap.size + 1, 2, none⟩ = some (.bool false) := (blk_cell BR 2).trans rfl
  have fr2 : w3.frozen? ⟨w.heap.size + 1, 2, none⟩ = false := blk_frozen BR 2
  have cr3 : w3.cell? ⟨w.heap.size + 1, 3, none⟩ = some (.bool false) := (blk_cell BR 3).trans rfl
  have fr3 : w3.frozen? ⟨w.heap.size + 1, 3, none⟩ = false := blk_frozen BR 3
  have cr4 : w3.cell? ⟨w.heap.size + 1, 4, none⟩ = some (.int .u8 0) := (blk_cell BR 4).trans rfl
  have fr4 : w3.frozen? ⟨w.heap.size + 1, 4, none⟩ = false := blk_frozen BR 4
  have cr5 : w3.cell? ⟨w.heap.size + 1, 5, none⟩ = some (.int .u8 0) := (blk_cell BR 5).trans rfl
  have fr5 : w3.frozen? ⟨w.heap.size + 1, 5, none⟩ = false := blk_frozen BR 5
  have cr6 : w3.cell? ⟨w.heap.size + 1, 6, none⟩ = some (.int .u8 0) := (blk_cell BR 6).trans rfl
  have fr6 : w3.frozen? ⟨w.heap.size + 1, 6, none⟩ = false := blk_frozen BR 6
  have ch0 : w3.cell? ⟨w.heap.size + 1 + 1, 0, none⟩ = some (.int .u8 (x % 4)) := by rw [hb.cell (p := ⟨w.heap.size + 1 + 1, 0, none⟩) (by simp)]; go_simp
  have ch1 : w3.cell? ⟨w.heap.size + 1 + 1, 1, none⟩ = some (.int .u8 (x / 4 % 2)) := by rw [hb.cell (p := ⟨w.heap.size + 1 + 1, 1, none⟩) (by simp)]; go_simp
  have ch2 : w3.cell? ⟨w.heap.size + 1 + 1, 2, none⟩ = some (.bool (x / 8 % 2 == 1)) := by rw [hb.cell (p := ⟨w.heap.size + 1 + 1, 2, none⟩) (by simp)]; go_simp
  have ch3 : w3.cell? ⟨w.heap.size + 1 + 1, 3, none⟩ = some (.bool (x / 16 % 2 == 1)) := by rw [hb.cell (p := ⟨w.heap.size + 1 + 1, 3, none⟩) (by simp)]; go_simp
  have ch4 : w3.cell? ⟨w.heap.size + 1 + 1, 4, none⟩ = some (.int .u8 (x / 32 % 64)) := by rw [hb.cell (p := ⟨w.heap.size + 1 + 1, 4, none⟩) (by simp)]; go_simp
  have ch5 : w3.cell? ⟨w.heap.size + 1 + 1, 5, none⟩ = some (.int .u8 (x / 2048 % 128)) := by rw [hb.cell (p := ⟨w.heap.size + 1 + 1, 5, none⟩) (by simp)]; go_simp
  have ch6 : w3.cell? ⟨w.heap.size + 1 + 1, 6, none⟩ = some (.int .u8 (x / 262144 % 128)) := by rw [hb.cell (p := ⟨w.heap.size + 1 + 1, 6, none⟩) (by simp)]; go_simp
  have hz : w.heap.size + 1 + 1 < w3.heap.size := by have := hb.size; simp at this; omega
  have HB : Below w.heap.size w w3 := (below_alloc (pw_below_drewN (below_alloc (below_alloc (Below.refl _ _) _) _) _) _).trans (hb.mono (by simp; omega))
  have BB := Aside0.mk BR
  have HBB := Aside0.mk HB
  clear BR HB
  by_cases hq : q = 0
  · have hq1 : (q != 0) = false := bne_eq_false_iff_eq.mpr hq
    have hp1 : (p != x) = true := bne_iff_ne.mpr (by rcases HN.out with h | h; exact absurd hq h; exact h)
    clear hq
    go_wp2
    refine bodyPost_ret (results_ct rfl _ _ (w.heap.size + 1) 28 #[.int .u8 0, .int .u8 0, .bool false, .bool false, .int .u8 0, .int .u8 0, .int .u8 0] (0, 0) _ rfl (blk_put (blk_put (blk_put (blk_put (blk_put (blk_put (blk_put BB.out 0 _ rfl) 1 _ rfl) 2 _ rfl) 3 _ rfl) 4 _ rfl) 5 _ rfl) 6 _ rfl) Try.underlying28 rfl (by kernel_rfl)) rfl ⟨rfl, (below_set (below_set (below_set (below_set (below_set (below_set (below_set HBB.out (Nat.le_succ _)) (Nat.le_succ _)) (Nat.le_succ _)) (Nat.le_succ _)) (Nat.le_succ _)) (Nat.le_succ _)) (Nat.le_succ _))⟩
  · have hq1 : (q != 0) = true := bne_iff_ne.mpr hq
    clear hq
    go_wp2
    refine bodyPost_ret (results_ct rfl _ _ (w.heap.size + 1) 28 #[.int .u8 0, .int .u8 0, .bool false, .bool false, .int .u8 0, .int .u8 0, .int .u8 0] (0, 0) _ rfl (blk_put (blk_put (blk_put (blk_put (blk_put (blk_put (blk_put BB.out 0 _ rfl) 1 _ rfl) 2 _ rfl) 3 _ rfl) 4 _ rfl) 5 _ rfl) 6 _ rfl) Try.underlying28 rfl (by kernel_rfl)) rfl ⟨rfl, (below_set (below_set (below_set (below_set (below_set (below_set (below_set HBB.out (Nat.le_succ _)) (Nat.le_succ _)) (Nat.le_succ _)) (Nat.le_succ _)) (Nat.le_succ _)) (Nat.le_succ _)) (Nat.le_succ _))⟩
set_option maxHeartbeats 4000000 in
theorem take_yes (x : Int) (w : World) (h0 : 0 ≤ x) (h1 : x < 18446744073709551616) (hp : putp (x % 4) (x / 4 % 2) (x / 8 % 2 == 1) (x / 16 % 2 == 1) (x / 32 % 64) (x / 2048 % 128) (x / 262144 % 128) = some (x, 0)) :
    Calls Try.prog 12 #[.int .u64 x] w fun e w' => e = .returned (.tuple #[.agg #[.int .u8 (x % 4), .int .u8 (x / 4 % 2), .bool (x / 8 % 2 == 1), .bool (x / 16 % 2 == 1), .int .u8 (x / 32 % 64), .int .u8 (x / 2048 % 128), .int .u8 (x / 262144 % 128)], .int .i64 0]) ∧ Below w.heap.size w w' := by
  have HP := Aside0.mk hp
  have H0 := Aside0.mk h0
  have H1 := Aside0.mk h1
  clear hp h0 h1
  have hmf : ∀ (fn : Fn) (first cap : Array Value) (w : World), (Instr.makeFunc fn first cap).run Try.prog w = .ok (.func fn first cap) w := fun _ _ _ _ => rfl
  go_enter Try.func12, Try.ntmps12
  go_wp2_with fail
  refine (take16_0 _ _ _ (by go_simp) H0.out H1.out).mono ?_
  rintro e w2 ⟨rfl, nq0, rfl⟩
  go_wp2_with fail
  refine (take16_2 _ _ _ (by go_simp) H0.out H1.out).mono ?_
  rintro e w2 ⟨rfl, nq1, rfl⟩
  go_wp2_with fail
  refine (take16_3 _ _ _ (by go_simp) H0.out H1.out).mono ?_
  rintro e w2 ⟨rfl, nq2, rfl⟩
  go_wp2_with fail
  refine (take16_4 _ _ _ (by go_simp) H0.out H1.out).mono ?_
  rintro e w2 ⟨rfl, nq3, rfl⟩
  go_wp2_with fail
  refine (take16_5 _ _ _ (by go_simp) H0.out H1.out).mono ?_
  rintro e w2 ⟨rfl, nq4, rfl⟩
  go_wp2_with fail
  refine (take16_11 _ _ _ (by go_simp) H0.out H1.out).mono ?_
  rintro e w2 ⟨rfl, nq5, rfl⟩
  go_wp2_with fail
  refine (take16_18 _ _ _ (by go_simp) H0.out H1.out).mono ?_
  rintro e w2 ⟨rfl, nq6, rfl⟩
  go_wp2_with fail
  refine (put_any _ _ _ _ _ _ _ x 0 _ HP.out).mono ?_
  rintro e w3 ⟨rfl, hb⟩
  have cx : w3.cell? ⟨w.heap.size, 0, none⟩ = some (.int .u64 x) := by rw [hb.cell (p := ⟨w.heap.size, 0, none⟩) (by simp; omega)]; go_simp
  have BR : w3.heap[w.heap.size + 1]? = some (.cells #[.int .u8 0, .int .u8 0, .bool false, .bool false, .int .u8 0, .int .u8 0, .int .u8 0] 28 (0, 0)) := blk_below (by rw [show w.heap.size + 1 = (w.alloc (.cells #[.int .u64 x] 24)).heap.size by simp]; exact blk_alloc (blk_drewN (blk_new _ _) _) _) hb
  have cr0 : w3.cell? ⟨w.heap.size + 1, 0, none⟩ = some (.int .u8 0) := (blk_cell BR 0).trans rfl
  have fr0 : w3.frozen? ⟨w.heap.size + 1, 0, none⟩ = false := blk_frozen BR 0
  have cr1 : w3.cell? ⟨w.heap.size + 1, 1, none⟩ = some (.int .u8 0) := (blk_cell BR 1).trans rfl
  have fr1 : w3.frozen? ⟨w.heap.size + 1, 1, none⟩ = false := blk_frozen BR 1
  have cr2 : w3.cell? ⟨w.heap.size + 1, 2, none⟩ = some (.bool false) := (blk_cell BR 2).trans rfl
  have fr2 : w3.frozen? ⟨w.heap.size + 1, 2, none⟩ = false := blk_frozen BR 2
  have cr3 : w3.cell? ⟨w.heap.size + 1, 3, none⟩ = some (.bool false) := (blk_cell BR 3).trans rfl
  have fr3 : w3.frozen? ⟨w.heap.size + 1, 3, none⟩ = false := blk_frozen BR 3
  have cr4 : w3.cell? ⟨w.heap.size + 1, 4, none⟩ = some (.int .u8 0) := (blk_cell BR 4).trans rfl
  have fr4 : w3.frozen? ⟨w.heap.size + 1, 4, none⟩ = false := blk_frozen BR 4
  have cr5 : w3.cell? ⟨w.heap.size + 1, 5, none⟩ = some (.int .u8 0) := (blk_cell BR 5).trans rfl
  have fr5 : w3.frozen? ⟨w.heap.size + 1, 5, none⟩ = false := blk_frozen BR 5
  have cr6 : w3.cell? ⟨w.heap.size + 1, 6, none⟩ = some (.int .u8 0) := (blk_cell BR 6).trans rfl
  have fr6 : w3.frozen? ⟨w.heap.size + 1, 6, none⟩ = false := blk_frozen BR 6
  have ch0 : w3.cell? ⟨w.heap.size + 1 + 1, 0, none⟩ = some (.int .u8 (x % 4)) := by rw [hb.cell (p := ⟨w.heap.size + 1 + 1, 0, none⟩) (by simp)]; go_simp
  have ch1 : w3.cell? ⟨w.heap.size + 1 + 1, 1, none⟩ = some (.int .u8 (x / 4 % 2)) := by rw [hb.cell (p := ⟨w.heap.size + 1 + 1, 1, none⟩) (by simp)]; go_simp
  have ch2 : w3.cell? ⟨w.heap.size + 1 + 1, 2, none⟩ = some (.bool (x / 8 % 2 == 1)) := by rw [hb.cell (p := ⟨w.heap.size + 1 + 1, 2, none⟩) (by simp)]; go_simp
  have ch3 : w3.cell? ⟨w.heap.size + 1 + 1, 3, none⟩ = some (.bool (x / 16 % 2 == 1)) := by rw [hb.cell (p := ⟨w.heap.size + 1 + 1, 3, none⟩) (by simp)]; go_simp
  have ch4 : w3.cell? ⟨w.heap.size + 1 + 1, 4, none⟩ = some (.int .u8 (x / 32 % 64)) := by rw [hb.cell (p := ⟨w.heap.size + 1 + 1, 4, none⟩) (by simp)]; go_simp
  have ch5 : w3.cell? ⟨w.heap.size + 1 + 1, 5, none⟩ = some (.int .u8 (x / 2048 % 128)) := by rw [hb.cell (p := ⟨w.heap.size + 1 + 1, 5, none⟩) (by simp)]; go_simp
  have ch6 : w3.cell? ⟨w.heap.size + 1 + 1, 6, none⟩ = some (.int .u8 (x / 262144 % 128)) := by rw [hb.cell (p := ⟨w.heap.size + 1 + 1, 6, none⟩) (by simp)]; go_simp
  have hz : w.heap.size + 1 + 1 < w3.heap.size := by have := hb.size; simp at this; omega
  have HB : Below w.heap.size w w3 := (below_alloc (pw_below_drewN (below_alloc (below_alloc (Below.refl _ _) _) _) _) _).trans (hb.mono (by simp; omega))
  have BB := Aside0.mk BR
  have HBB := Aside0.mk HB
  clear BR HB
  go_wp2
  refine bodyPost_ret (results_ct rfl _ _ (w.heap.size + 1) 28 #[.int .u8 (x % 4), .int .u8 (x / 4 % 2), .bool (x / 8 % 2 == 1), .bool (x / 16 % 2 == 1), .int .u8 (x / 32 % 64), .int .u8 (x / 2048 % 128), .int .u8 (x / 262144 % 128)] (0, 0) _ rfl (blk_put (blk_put (blk_put (blk_put (blk_put (blk_put (blk_put BB.out 0 _ rfl) 1 _ rfl) 2 _ rfl) 3 _ rfl) 4 _ rfl) 5 _ rfl) 6 _ rfl) Try.underlying28 rfl (by kernel_rfl)) rfl ⟨rfl, (below_set (below_set (below_set (below_set (below_set (below_set (below_set HBB.out (Nat.le_succ _)) (Nat.le_succ _)) (Nat.le_succ _)) (Nat.le_succ _)) (Nat.le_succ _)) (Nat.le_succ _)) (Nat.le_succ _))⟩
def takep (x : Int) : Option (Int × Int × Bool × Bool × Int × Int × Int × Int) :=
  if 0 ≤ x ∧ x < 18446744073709551616 then (putp (x % 4) (x / 4 % 2) (x / 8 % 2 == 1) (x / 16 % 2 == 1) (x / 32 % 64) (x / 2048 % 128) (x / 262144 % 128)).bind fun r => if r.2 = 0 ∧ r.1 = x then some (x % 4, x / 4 % 2, x / 8 % 2 == 1, x / 16 % 2 == 1, x / 32 % 64, x / 2048 % 128, x / 262144 % 128, 0) else some (0, 0, false, false, 0, 0, 0, 3) else none
theorem take_any (x r1 r2 : Int) (r3 r4 : Bool) (r5 r6 r7 r8 : Int) (w : World) (h : takep x = some (r1, r2, r3, r4, r5, r6, r7, r8)) :
    Calls Try.prog 12 #[.int .u64 x] w fun e w' => e = .returned (.tuple #[.agg #[.int .u8 r1, .int .u8 r2, .bool r3, .bool r4, .int .u8 r5, .int .u8 r6, .int .u8 r7], .int .i64 r8]) ∧ Below w.heap.size w w' := by
  unfold takep at h
  by_cases hb : 0 ≤ x ∧ x < 18446744073709551616
  · rw [if_pos hb] at h
    obtain ⟨⟨p, q⟩, hp, h⟩ := Option.bind_eq_some_iff.mp h
    by_cases c : q = 0 ∧ p = x
    · have h2 := (if_pos c).symm.trans h
      simp only [Option.some.injEq, Prod.mk.injEq] at h2
      obtain ⟨rfl, rfl, rfl, rfl, rfl, rfl, rfl, rfl⟩ := h2
      obtain ⟨rfl, rfl⟩ := c
      exact take_yes _ w hb.1 hb.2 hp
    · have h2 := (if_neg c).symm.trans h
      simp only [Option.some.injEq, Prod.mk.injEq] at h2
      obtain ⟨rfl, rfl, rfl, rfl, rfl, rfl, rfl, rfl⟩ := h2
      exact take_no x p q w hb.1 hb.2 hp (by omega)
  · rw [if_neg hb] at h; cases h
end Go.Proofs.Ytgjgdgdckmgfmaa.Hand
