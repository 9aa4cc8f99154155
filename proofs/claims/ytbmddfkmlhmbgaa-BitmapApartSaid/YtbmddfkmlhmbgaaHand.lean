/- Proved here: what the functions over [64]bool of package demesneref04 answer and what they do to memory, and what masks of bits are as numbers; no condition but those that each theorem writes out. -/
import Derived.Test.YtbmddfkmlhmbgaaProg
import Derived.WalkKit
import Derived.Below
import Derived.KernelRfl
import Derived.Deep.QuietTactic
import Derived.BigQuiet
import Derived.RegionTactic
import Derived.ChangeAlike
import Derived.Laws.Bits64
import Derived.Laws.BitsLemmas
import Derived.Laws.Rows
import Derived.Laws.Tables
import Derived.Deep.LoopGhost
import Derived.LoopTactic
import Derived.Lib.Hide
namespace Go.Proofs.Ytbmddfkmlhmbgaa.Hand
open Go.RowKit
set_option linter.unusedVariables false
set_option linter.unusedSimpArgs false
def cellsB (l : List Bool) : Array Value := (l.map Value.bool).toArray
def bitL (x : Int) (k : Nat) : List Bool := (List.range 64).map fun i => decide (i < k) && (x / 2 ^ i % 2 == 1)
theorem bitL_len (x : Int) (k : Nat) : (bitL x k).length = 64 := by simp [bitL]
theorem cellsB_size (l : List Bool) : (cellsB l).size = l.length := by simp [cellsB]
theorem cellsB_at (l : List Bool) (k : Nat) (h : k < l.length) : (cellsB l)[k]? = some (.bool l[k]) := by simp [cellsB, h]
theorem bitL_set (x : Int) (k : Nat) (y : Int) (hy : y = x / 2 ^ k) : (cellsB (bitL x k)).setIfInBounds k (.bool (y % 2 == 1)) = cellsB (bitL x (k + 1)) := by
  subst hy
  unfold cellsB bitL
  apply Array.ext'
  simp only [List.setIfInBounds_toArray]
  apply List.ext_getElem
  · simp
  · intro i h1 h2
    simp only [List.getElem_set, List.getElem_map, List.getElem_range]
    by_cases c : k = i
    · subst c
      rw [if_pos rfl, decide_eq_true (show k < k + 1 by omega)]
      rfl
    · rw [if_neg c]
      have e : decide (i < k) = decide (i < k + 1) := by rw [decide_eq_decide]; omega
      rw [e]
theorem div_succ (x : Int) (k : Nat) (y : Int) (h : y = x / 2 ^ k) : y / 2 = x / 2 ^ (k + 1) := by
  rw [h, Int.pow_succ, Int.ediv_ediv_of_nonneg (Int.pow_nonneg (by decide))]
theorem cellsB_one (l : List Bool) : (cellsB l).all (·.oneCell') = true := by
  rw [Array.all_eq_true_iff_forall_mem]
  intro v hv
  simp only [cellsB, List.mem_toArray, List.mem_map] at hv
  obtain ⟨b, _, rfl⟩ := hv
  rfl
theorem info23 : (Try.prog.info? 23).map (·.size) = some 64 := by kernel_rfl
theorem below_setRow {B : Nat} {w W : World} (h : Below B w W) (g : Nat) (hg : B ≤ g) (cs : Array Value) : Below B w (W.setRow g cs) :=
  ⟨h.os, h.tape, h.output, by rw [size_setRow]; exact h.size, fun i hi => by
    rw [← h.block i hi]
    simp only [World.setRow, Array.getElem?_modify]
    rw [if_neg (by omega)]⟩
set_option maxRecDepth 100000 in
set_option maxHeartbeats 4000000 in
theorem bits_any (x : Int) (w : World) (h0 : 0 ≤ x) (h1 : x < 18446744073709551616) :
    Calls Try.prog 6 #[.int .u64 x] w fun e w' => e = .returned (.agg (cellsB (bitL x 64))) ∧ Below w.heap.size w w' := by
  have hz : ∀ (W : World) (A B : Obj), ((W.alloc A).alloc B).heap[W.heap.size + 1]? = some B := heap_alloc2_new
  clear hz
  go_enter Try.func6, Try.ntmps6
  go_wp2
  go_loopw [0, 4] (fun v0 v4 wr => ∃ (k : Nat) (y : Int), k ≤ 64 ∧ v0 = .int .u64 y ∧ v4 = .int .i64 k ∧ 0 ≤ y ∧ y < 18446744073709551616 ∧ Hid (y = x / 2 ^ k) ∧ Hid (wr.heap[w.heap.size + 1]? = some (.cells (cellsB (bitL x k)) 23 (0, 0))) ∧ Hid (∃ c0 : Array Value, c0.size = 64 ∧ wr.heap[w.heap.size]? = some (.cells c0 23 (0, 0))) ∧ Hid (Below w.heap.size w wr)) (fun _ v4 _ => 64 - (intOf v4).toNat)
  case atStart =>
    refine ⟨0, x, by omega, rfl, rfl, h0, h1, Lib.hid (by simp), Lib.hid ?_, Lib.hid ?_, Lib.hid (((Below.refl _ _).alloc (Nat.le_refl _) _).alloc (by simp) _)⟩
    · rw [heap_alloc2_new]; rfl
    · exact ⟨_, rfl, by rw [heap_alloc2_old]⟩
  case round =>
    obtain ⟨k, y, hk, rfl, rfl, hy0, hy1, HY, HC, HR, HB⟩ := hrel
    by_cases hlt : k < 64
    · have hc : wr.cell? ⟨w.heap.size + 1, k, none⟩ = some (.bool ((bitL x k)[k]'(by rw [bitL_len]; exact hlt))) :=
        (cell_of_row _ _ _ _ _ _ HC.out).trans (cellsB_at _ _ _)
      have hf : wr.frozen? ⟨w.heap.size + 1, k, none⟩ = false := frozen_of_row _ _ _ _ _ HC.out
      go_wp2
      go_roundw
      case rel =>
        refine ⟨k + 1, y / 2, by omega, rfl, by go_num, by omega, by omega, Lib.hid (div_succ x k y HY.out), Lib.hid ?_, Lib.hid ?_, Lib.hid (HB.out.setCell (Nat.le_succ _) _)⟩
        · rw [heap_setCell_same _ _ _ _ _ _ HC.out, bitL_set x k y HY.out]
        · obtain ⟨c0, hs, hr⟩ := HR.out
          exact ⟨c0, hs, (heap_setCell_other _ _ _ _ (by simp)).trans hr⟩
      case measure => simp [intOf]; omega
    · obtain rfl : k = 64 := by omega
      obtain ⟨c0, hs, hr⟩ := HR.out
      have HS := Lib.hid hs
      have HRR := Lib.hid hr
      clear hs hr hlt hk
      go_wp2_with (first | (refine wpList_load_row rfl 23 _ rfl (w.heap.size + 1) rfl 23 _ (0, 0) _ HC.out Try.underlying23 rfl ?h1 ?_; (case h1 => rw [cellsB_size, bitL_len]; exact info23)) | (refine wpList_store_row rfl 23 _ _ rfl w.heap.size (cellsB (bitL x 64)) rfl rfl 23 c0 HRR.out ?h2 ?h3 (cellsB_one _) ?_; (case h2 => rw [cellsB_size, bitL_len]; exact info23); (case h3 => rw [cellsB_size, bitL_len]; exact HS.out)))
      refine bodyPost_ret (results_cell_row rfl _ _ w.heap.size 23 (cellsB (bitL x 64)) (0, 0) _ rfl (setRow_heap _ _ _ _ _ _ HRR.out) Try.underlying23 rfl ?_) rfl ⟨rfl, ?_⟩
      · rw [cellsB_size, bitL_len]; exact info23
      · exact below_setRow HB.out _ (Nat.le_refl _) _
def fromTop (l : List Bool) : Nat → Int
  | 0 => 0
  | n + 1 => fromTop l n * 2 + (if l.getD (63 - n) false = true then 1 else 0)
def wordB (l : List Bool) : Int := fromTop l 64
theorem fromTop_bd (l : List Bool) (n : Nat) : 0 ≤ fromTop l n ∧ fromTop l n < 2 ^ n := by
  induction n with
  | zero => simp [fromTop]
  | succ n ih =>
    have e : (2 : Int) ^ (n + 1) = 2 ^ n * 2 := Int.pow_succ 2 n
    simp only [fromTop]
    split <;> omega
theorem fromTop_63 (l : List Bool) (n : Nat) (h : n ≤ 63) : 0 ≤ fromTop l n ∧ fromTop l n ≤ 9223372036854775807 := by
  have b := fromTop_bd l n
  have e : (2 : Int) ^ 63 = 9223372036854775808 := by decide
  have m : (2 : Int) ^ n ≤ 2 ^ 63 := by exact_mod_cast Nat.pow_le_pow_right (show 2 > 0 by decide) h
  omega
set_option maxRecDepth 100000 in
set_option maxHeartbeats 4000000 in
theorem word_any (l : List Bool) (hl : l.length = 64) (w : World) :
    Calls Try.prog 21 #[.agg (cellsB l)] w fun e w' => e = .returned (.int .u64 (wordB l)) ∧ Below w.heap.size w w' := by
  go_enter Try.func21, Try.ntmps21
  go_wp2
  have hheap : (w.alloc (.cells (cellsB l) 23)).heap[w.heap.size]? = some (.cells (cellsB l) 23 (0, 0)) := heap_alloc_new _ _
  have HH := Lib.hid hheap
  clear hheap
  have HL := Lib.hid hl
  clear hl
  go_loop [3, 4] (fun v3 v4 => ∃ (n : Nat) (y j : Int), n ≤ 64 ∧ v3 = .int .u64 y ∧ v4 = .int .i64 j ∧ Hid (y = fromTop l n) ∧ Hid (j = 63 - n) ∧ -1 ≤ j ∧ j ≤ 63) (fun _ v4 => (intOf v4 + 1).toNat)
  case atStart => exact ⟨0, 0, 63, by omega, rfl, rfl, Lib.hid rfl, Lib.hid (by simp), by omega, by omega⟩
  case round =>
    obtain ⟨n, y, j, hn, rfl, rfl, HY, HJ, hj0, hj1⟩ := hrel
    by_cases hlt : 0 ≤ j
    · have hn63 : n ≤ 63 := by have := HJ.out; omega
      obtain ⟨hy0, hy1⟩ : 0 ≤ y ∧ y ≤ 9223372036854775807 := by rw [HY.out]; exact fromTop_63 l n hn63
      have hjl : j.toNat < l.length := by rw [HL.out]; omega
      have hg : l.getD j.toNat false = l[j.toNat] := by simp [hjl]
      have hn' : 63 - n = j.toNat := by have := HJ.out; omega
      have hc : (w.alloc (.cells (cellsB l) 23)).cell? ⟨w.heap.size, j.toNat, none⟩ = some (.bool (l.getD j.toNat false)) := by
        rw [hg]; exact (cell_of_row _ _ _ _ _ _ HH.out).trans (cellsB_at _ _ _)
      have HN := Lib.hid hn'
      have hst : fromTop l (n + 1) = y * 2 + (if l.getD j.toNat false = true then 1 else 0) := by
        simp only [fromTop]; rw [← HY.out, HN.out]
      have HS := Lib.hid hst
      clear hn' hg hst
      cases hb : l.getD j.toNat false with
      | true =>
        rw [hb] at hc
        have HB := Lib.hid hb
        clear hb
        go_wp2
        go_round
        case rel => exact ⟨n + 1, y * 2 + 1, j - 1, by omega, by go_num, by go_num, Lib.hid (by rw [HS.out, HB.out]; rfl), Lib.hid (by have := HJ.out; omega), by omega, by omega⟩
        case measure => simp [intOf]; omega
      | false =>
        rw [hb] at hc
        have HB := Lib.hid hb
        clear hb
        go_wp2
        go_round
        case rel => exact ⟨n + 1, y * 2, j - 1, by omega, by go_num, by go_num, Lib.hid (by rw [HS.out, HB.out]; simp), Lib.hid (by have := HJ.out; omega), by omega, by omega⟩
        case measure => simp [intOf]; omega
    · obtain rfl : n = 64 := by have := HJ.out; omega
      go_wp2
      go_ret
      exact ⟨by rw [HY.out]; rfl, (Below.refl _ _).alloc (Nat.le_refl _) _⟩
def allL (b : Int) (k : Nat) : List Bool := (List.range 64).map fun i => decide (i < k) && decide ((i : Int) < b)
theorem allL_len (b : Int) (k : Nat) : (allL b k).length = 64 := by simp [allL]
theorem allL_set (b : Int) (k : Nat) : (cellsB (allL b k)).setIfInBounds k (.bool (decide ((k : Int) < b))) = cellsB (allL b (k + 1)) := by
  unfold cellsB allL
  apply Array.ext'
  simp only [List.setIfInBounds_toArray]
  apply List.ext_getElem
  · simp
  · intro i h1 h2
    simp only [List.getElem_set, List.getElem_map, List.getElem_range]
    by_cases c : k = i
    · subst c
      rw [if_pos rfl, decide_eq_true (show k < k + 1 by omega)]
      rfl
    · rw [if_neg c]
      have e : decide (i < k) = decide (i < k + 1) := by rw [decide_eq_decide]; omega
      rw [e]
set_option maxRecDepth 100000 in
set_option maxHeartbeats 4000000 in
theorem all_any (b : Int) (w : World) :
    Calls Try.prog 12 #[.int .i64 b] w fun e w' => e = .returned (.int .u64 (wordB (allL b 64))) ∧ Below w.heap.size w w' := by
  go_enter Try.func12, Try.ntmps12
  go_wp2
  go_loopw [4] (fun v4 wr => ∃ (k : Nat), k ≤ 64 ∧ v4 = .int .i64 k ∧ Hid (wr.heap[w.heap.size]? = some (.cells (cellsB (allL b k)) 23 (0, 0))) ∧ Hid (Below w.heap.size w wr)) (fun v4 _ => 64 - (intOf v4).toNat)
  case atStart =>
    refine ⟨0, by omega, rfl, Lib.hid ?_, Lib.hid ((Below.refl _ _).alloc (Nat.le_refl _) _)⟩
    rw [heap_alloc_new]; rfl
  case round =>
    obtain ⟨k, hk, rfl, HC, HB⟩ := hrel
    by_cases hlt : k < 64
    · have hc : wr.cell? ⟨w.heap.size, k, none⟩ = some (.bool ((allL b k)[k]'(by rw [allL_len]; exact hlt))) :=
        (cell_of_row _ _ _ _ _ _ HC.out).trans (cellsB_at _ _ _)
      have hf : wr.frozen? ⟨w.heap.size, k, none⟩ = false := frozen_of_row _ _ _ _ _ HC.out
      go_wp2
      go_roundw
      case rel =>
        refine ⟨k + 1, by omega, by go_num, Lib.hid ?_, Lib.hid (HB.out.setCell (Nat.le_refl _) _)⟩
        rw [heap_setCell_same _ _ _ _ _ _ HC.out, allL_set]
      case measure => simp [intOf]; omega
    · obtain rfl : k = 64 := by omega
      clear hlt hk
      go_wp2_with (first | (refine wpList_load_row rfl 23 _ rfl w.heap.size rfl 23 _ (0, 0) _ HC.out Try.underlying23 rfl ?h1 ?_; (case h1 => rw [cellsB_size, allL_len]; exact info23)) | (go_at_call 21; (with_reducible refine (word_any _ (allL_len b 64) _).mono ?_); rintro e w' ⟨rfl, hb⟩))
      go_ret
      exact ⟨rfl, HB.out.trans (hb.mono HB.out.size)⟩
def withL (l : List Bool) (a k : Nat) (f : Bool) : List Bool := (List.range 64).map fun i => if a ≤ i ∧ i < a + k then f else l.getD i false
theorem withL_len (l : List Bool) (a k : Nat) (f : Bool) : (withL l a k f).length = 64 := by simp [withL]
theorem withL_zero (x : Int) (a : Nat) (f : Bool) : withL (bitL x 64) a 0 f = bitL x 64 := by
  apply List.ext_getElem
  · simp [withL, bitL]
  · intro i h1 h2
    have hi : i < 64 := by simpa [withL] using h1
    simp only [withL, List.getElem_map, List.getElem_range]
    rw [if_neg (by omega)]
    simp [h2]
theorem withL_set (l : List Bool) (a k : Nat) (f : Bool) : (cellsB (withL l a k f)).setIfInBounds (a + k) (.bool f) = cellsB (withL l a (k + 1) f) := by
  unfold cellsB withL
  apply Array.ext'
  simp only [List.setIfInBounds_toArray]
  apply List.ext_getElem
  · simp
  · intro i h1 h2
    simp only [List.getElem_set, List.getElem_map, List.getElem_range]
    by_cases c : a + k = i
    · subst c
      rw [if_pos rfl, if_pos (by omega)]
    · rw [if_neg c]
      have e : (a ≤ i ∧ i < a + k) ↔ (a ≤ i ∧ i < a + (k + 1)) := by omega
      simp only [e]
set_option maxRecDepth 100000 in
set_option maxHeartbeats 4000000 in
theorem with_any (x : Int) (a n : Nat) (f : Bool) (w : World) (h0 : 0 ≤ x) (h1 : x < 18446744073709551616) (hn : a + n ≤ 64) :
    Calls Try.prog 17 #[.int .u64 x, .int .i64 a, .int .i64 n, .bool f] w fun e w' => e = .returned (.int .u64 (wordB (withL (bitL x 64) a n f))) ∧ Below w.heap.size w w' := by
  go_enter Try.func17, Try.ntmps17
  go_wp2_with fail
  refine (bits_any _ _ h0 h1).mono ?_
  rintro e w1 ⟨rfl, hb1⟩
  have HB1 := Lib.hid hb1
  have HLE := Lib.hid hb1.size
  clear hb1
  go_wp2_with (first | (refine wpList_store_row rfl 23 _ _ rfl w1.heap.size (cellsB (bitL x 64)) rfl rfl 23 _ (heap_alloc_new _ _) ?h2 ?h3 (cellsB_one _) ?_; (case h2 => rw [cellsB_size, bitL_len]; exact info23); (case h3 => rw [cellsB_size, bitL_len]; rfl)))
  go_loopw [10] (fun v10 wr => ∃ (k : Nat), k ≤ n ∧ v10 = .int .i64 k ∧ Hid (wr.heap[w1.heap.size]? = some (.cells (cellsB (withL (bitL x 64) a k f)) 23 (0, 0))) ∧ Hid (Below w.heap.size w wr)) (fun v10 _ => n - (intOf v10).toNat)
  case atStart =>
    refine ⟨0, by omega, rfl, Lib.hid ?_, Lib.hid (below_setRow (HB1.out.alloc HLE.out _) _ HLE.out _)⟩
    rw [withL_zero]
    exact setRow_heap _ _ _ _ _ _ (heap_alloc_new _ _)
  case round =>
    obtain ⟨k, hk, rfl, HC, HB⟩ := hrel
    by_cases hlt : k < n
    · have hc : wr.cell? ⟨w1.heap.size, a + k, none⟩ = some (.bool ((withL (bitL x 64) a k f)[a + k]'(by rw [withL_len]; omega))) :=
        (cell_of_row _ _ _ _ _ _ HC.out).trans (cellsB_at _ _ _)
      have hf : wr.frozen? ⟨w1.heap.size, a + k, none⟩ = false := frozen_of_row _ _ _ _ _ HC.out
      go_wp2
      go_roundw
      case rel =>
        refine ⟨k + 1, by omega, by go_num, Lib.hid ?_, Lib.hid (HB.out.setCell HLE.out _)⟩
        rw [heap_setCell_same _ _ _ _ _ _ HC.out, withL_set]
      case measure => simp [intOf]; omega
    · obtain rfl : k = n := by omega
      clear hlt hk
      go_wp2_with (first | (refine wpList_load_row rfl 23 _ rfl w1.heap.size rfl 23 _ (0, 0) _ HC.out Try.underlying23 rfl ?h1 ?_; (case h1 => rw [cellsB_size, withL_len]; exact info23)) | (go_at_call 21; (with_reducible refine (word_any _ (withL_len _ _ _ _) _).mono ?_); rintro e w' ⟨rfl, hb⟩))
      go_ret
      exact ⟨rfl, HB.out.trans (hb.mono HB.out.size)⟩
def isP (x a n : Int) (f : Bool) : Bool :=
  if n < 1 ∨ n > 3 ∨ a < 0 ∨ a > 63 ∨ a + n > 64 then false else (List.range n.toNat).all fun i => (bitL x 64).getD (a.toNat + i) false == f
theorem is_out (x a n : Int) (f : Bool) (w : World) (h0 : 0 ≤ x) (h1 : x < 18446744073709551616) (h : n < 1 ∨ n > 3 ∨ a < 0 ∨ a > 63 ∨ a + n > 64) :
    Calls Try.prog 16 #[.int .u64 x, .int .i64 a, .int .i64 n, .bool f] w fun e w' => e = .returned (.bool false) ∧ Below w.heap.size w w' := by
  by_cases c1 : n < 1
  · have d1 := decide_eq_true c1
    clear c1 h
    go_enter Try.func16, Try.ntmps16
    go_wp2
    go_ret
    exact ⟨rfl, Below.refl _ _⟩
  have d1 := decide_eq_false c1
  by_cases c2 : 3 < n
  · have d2 := decide_eq_true c2
    clear c1 c2 h
    go_enter Try.func16, Try.ntmps16
    go_wp2
    go_ret
    exact ⟨rfl, Below.refl _ _⟩
  have d2 := decide_eq_false c2
  by_cases c3 : a < 0
  · have d3 := decide_eq_true c3
    clear c1 c2 c3 h
    go_enter Try.func16, Try.ntmps16
    go_wp2
    go_ret
    exact ⟨rfl, Below.refl _ _⟩
  have d3 := decide_eq_false c3
  by_cases c4 : 63 < a
  · have d4 := decide_eq_true c4
    clear c1 c2 c3 c4 h
    go_enter Try.func16, Try.ntmps16
    go_wp2
    go_ret
    exact ⟨rfl, Below.refl _ _⟩
  have d4 := decide_eq_false c4
  have d5 : decide (64 < a + n) = true := decide_eq_true (by omega)
  have b1 : 1 ≤ n := by omega
  have b2 : n ≤ 3 := by omega
  have b3 : 0 ≤ a := by omega
  have b4 : a ≤ 63 := by omega
  clear c1 c2 c3 c4 h
  go_enter Try.func16, Try.ntmps16
  go_wp2
  go_ret
  exact ⟨rfl, Below.refl _ _⟩
def SomeBool (P : Bool → Prop) (w : World) (e : Ending) (w' : World) : Prop := ∃ b : Bool, P b ∧ e = .returned (.bool b) ∧ Below w.heap.size w w'
set_option maxRecDepth 100000 in
set_option maxHeartbeats 4000000 in
theorem is_in (x : Int) (a n : Nat) (f : Bool) (w : World) (h0 : 0 ≤ x) (h1 : x < 18446744073709551616) (hn0 : 1 ≤ n) (hn : n ≤ 3) (han : a + n ≤ 64) :
    Calls Try.prog 16 #[.int .u64 x, .int .i64 a, .int .i64 n, .bool f] w (SomeBool (fun b => b = (List.range n).all fun i => (bitL x 64).getD (a + i) false == f) w) := by
  have d1 : decide ((n : Int) < 1) = false := decide_eq_false (by omega)
  have d2 : decide (3 < (n : Int)) = false := decide_eq_false (by omega)
  have d3 : decide ((a : Int) < 0) = false := decide_eq_false (by omega)
  have d4 : decide (63 < (a : Int)) = false := decide_eq_false (by omega)
  have d5 : decide (64 < (a : Int) + (n : Int)) = false := decide_eq_false (by omega)
  have H0 := Lib.hid h0
  have H1 := Lib.hid h1
  go_enter Try.func16, Try.ntmps16
  go_wp2_with fail
  refine (bits_any _ _ H0.out H1.out).mono ?_
  rintro e w1 ⟨rfl, hb1⟩
  have HB1 := Lib.hid hb1
  have HLE := Lib.hid hb1.size
  clear hb1
  go_wp2_with (first | (refine wpList_store_row rfl 23 _ _ rfl w1.heap.size (cellsB (bitL x 64)) rfl rfl 23 _ (heap_alloc_new _ _) ?h2 ?h3 (cellsB_one _) ?_; (case h2 => rw [cellsB_size, bitL_len]; exact info23); (case h3 => rw [cellsB_size, bitL_len]; rfl)))
  obtain ⟨W2, hW2⟩ : ∃ W2, W2 = (w1.alloc (.cells (cellsB (bitL 0 0)) 23)).setRow w1.heap.size (cellsB (bitL x 64)) := ⟨_, rfl⟩
  have HC : Hid (W2.heap[w1.heap.size]? = some (.cells (cellsB (bitL x 64)) 23 (0, 0))) := Lib.hid (by rw [hW2]; exact setRow_heap _ _ _ _ _ _ (heap_alloc_new _ _))
  have HB : Hid (Below w.heap.size w W2) := Lib.hid (by rw [hW2]; exact below_setRow (HB1.out.alloc HLE.out _) _ HLE.out _)
  rw [show (w1.alloc (.cells #[.bool false, .bool false, .bool false, .bool false, .bool false, .bool false, .bool false, .bool false, .bool false, .bool false, .bool false, .bool false, .bool false, .bool false, .bool false, .bool false, .bool false, .bool false, .bool false, .bool false, .bool false, .bool false, .bool false, .bool false, .bool false, .bool false, .bool false, .bool false, .bool false, .bool false, .bool false, .bool false, .bool false, .bool false, .bool false, .bool false, .bool false, .bool false, .bool false, .bool false, .bool false, .bool false, .bool false, .bool false, .bool false, .bool false, .bool false, .bool false, .bool false, .bool false, .bool false, .bool false, .bool false, .bool false, .bool false, .bool false, .bool false, .bool false, .bool false, .bool false, .bool false, .bool false, .bool false, .bool false] 23)).setRow w1.heap.size (cellsB (bitL x 64)) = W2 from hW2.symm]
  clear hW2
  go_loop [10] (fun v10 => ∃ (k : Nat), k ≤ n ∧ v10 = .int .i64 k ∧ Hid (∀ i, i < k → ((bitL x 64).getD (a + i) false == f) = true)) (fun v10 => n - (intOf v10).toNat)
  case atStart => exact ⟨0, by omega, rfl, Lib.hid (fun i hi => absurd hi (Nat.not_lt_zero i))⟩
  case round =>
    obtain ⟨k, hk, rfl, HA⟩ := hrel
    by_cases hlt : k < n
    · have hg : (bitL x 64).getD (a + k) false = (bitL x 64)[a + k]'(by rw [bitL_len]; omega) := by simp [bitL_len, show a + k < 64 by omega]
      have hc : W2.cell? ⟨w1.heap.size, a + k, none⟩ = some (.bool ((bitL x 64).getD (a + k) false)) := by
        rw [hg]; exact (cell_of_row _ _ _ _ _ _ HC.out).trans (cellsB_at _ _ _)
      clear hg
      generalize hq : (bitL x 64).getD (a + k) false = q at hc
      have HQ := Lib.hid hq
      clear hq
      by_cases hbf : q = f
      · subst hbf
        go_wp2
        go_round
        case rel =>
          refine ⟨k + 1, by omega, by go_num, Lib.hid (fun i hi => ?_)⟩
          by_cases e : i = k
          · subst e; rw [HQ.out]; simp
          · exact HA.out i (by omega)
        case measure => simp [intOf]; omega
      · have hne : (q == f) = false := by simpa using hbf
        have HF := Lib.hid hbf
        clear hbf
        go_wp2
        go_ret
        have hX : ((List.range n).all fun i => (bitL x 64).getD (a + i) false == f) = false := by
          rw [List.all_eq_false]
          exact ⟨k, List.mem_range.mpr hlt, by rw [HQ.out]; simpa using HF.out⟩
        exact ⟨false, hX.symm, rfl, HB.out⟩
    · obtain rfl : k = n := by omega
      go_wp2
      go_ret
      have hX : ((List.range k).all fun i => (bitL x 64).getD (a + i) false == f) = true := by
        rw [List.all_eq_true]
        exact fun i hi => HA.out i (List.mem_range.mp hi)
      exact ⟨true, hX.symm, rfl, HB.out⟩
theorem is_any (x a n : Int) (f r : Bool) (w : World) (h0 : 0 ≤ x) (h1 : x < 18446744073709551616) (h : isP x a n f = r) :
    Calls Try.prog 16 #[.int .u64 x, .int .i64 a, .int .i64 n, .bool f] w fun e w' => e = .returned (.bool r) ∧ Below w.heap.size w w' := by
  unfold isP at h
  by_cases c : n < 1 ∨ n > 3 ∨ a < 0 ∨ a > 63 ∨ a + n > 64
  · rw [if_pos c] at h
    subst h
    exact is_out x a n f w h0 h1 c
  · rw [if_neg c] at h
    obtain ⟨a', rfl⟩ := Int.eq_ofNat_of_zero_le (show 0 ≤ a by omega)
    obtain ⟨n', rfl⟩ := Int.eq_ofNat_of_zero_le (show 0 ≤ n by omega)
    refine (is_in x a' n' f w h0 h1 (by omega) (by omega) (by omega)).mono ?_
    rintro e w' ⟨b, rfl, rfl, hb⟩
    simp only [Int.toNat_natCast] at h
    subst h
    exact ⟨rfl, hb⟩
/-! ### bits as numbers -/
theorem wu64 (n : Int) (h0 : 0 ≤ n) (h1 : n < 18446744073709551616) : IntKind.u64.wrap n = n := by
  rw [IntKind.wrap_u64]; omega
theorem and_n (a b : Nat) (ha : a < 2 ^ 64) (hb : b < 2 ^ 64) : bits .and .u64 (a : Int) (b : Int) = ((a &&& b : Nat) : Int) :=
  (bits_nat .u64 64 (by decide) (fun n h0 h1 => wu64 n h0 (by omega)) a b ha hb).1
theorem or_n (a b : Nat) (ha : a < 2 ^ 64) (hb : b < 2 ^ 64) : bits .or .u64 (a : Int) (b : Int) = ((a ||| b : Nat) : Int) :=
  (bits_nat .u64 64 (by decide) (fun n h0 h1 => wu64 n h0 (by omega)) a b ha hb).2
theorem andNot_n (a b : Nat) (ha : a < 2 ^ 64) (hb : b < 2 ^ 64) : bits .andNot .u64 (a : Int) (b : Int) = ((a &&& (2 ^ 64 - (b + 1)) : Nat) : Int) := by
  have e : IntKind.u64.bits = 64 := rfl
  simp only [bits, BitVec.ofInt_natCast, BitVec.toNat_and, BitVec.toNat_not, BitVec.toNat_ofNat, e]
  rw [Nat.mod_eq_of_lt ha, Nat.mod_eq_of_lt hb, show 2 ^ 64 - 1 - b = 2 ^ 64 - (b + 1) by omega]
  have hlt : a &&& (2 ^ 64 - (b + 1)) < 2 ^ 64 := Nat.and_lt_two_pow _ (by omega)
  exact wu64 _ (by omega) (by omega)
/-- The mask of a run. -/
def maskN (a n : Nat) : Nat := (2 ^ n - 1) * 2 ^ a
theorem maskN_bit (a n j : Nat) : (maskN a n).testBit j = (decide (a ≤ j) && decide (j < a + n)) := by
  unfold maskN
  rw [Nat.testBit_mul_two_pow, Nat.testBit_two_pow_sub_one]
  by_cases c : a ≤ j
  · rw [decide_eq_true c, Bool.true_and, Bool.true_and, decide_eq_decide]; omega
  · rw [decide_eq_false c, Bool.false_and, Bool.false_and]
theorem maskN_lt (a n : Nat) (h : a + n ≤ 64) : maskN a n < 2 ^ 64 := by
  refine Nat.lt_pow_two_of_testBit _ fun i hi => ?_
  rw [maskN_bit, decide_eq_false (show ¬ i < a + n by omega), Bool.and_false]
theorem bit_of (x i : Nat) : ((x : Int) / 2 ^ i % 2 == 1) = x.testBit i := by
  rw [Nat.testBit_eq_decide_div_mod_eq]
  have e : ((x : Int) / 2 ^ i % 2) = ((x / 2 ^ i % 2 : Nat) : Int) := by simp
  rw [e]
  by_cases c : x / 2 ^ i % 2 = 1
  · rw [c]; rfl
  · rw [decide_eq_false c]
    exact beq_eq_false_iff_ne.mpr (by omega)
theorem bitL_get (x i : Nat) (h : i < 64) : (bitL (x : Int) 64).getD i false = x.testBit i := by
  have e : (bitL (x : Int) 64).getD i false = (decide (i < 64) && ((x : Int) / 2 ^ i % 2 == 1)) := by
    simp [bitL, h]
  rw [e, decide_eq_true h, Bool.true_and, bit_of]
theorem fromTop_nat (l : List Bool) (n : Nat) (hn : n ≤ 64) : ∃ m : Nat, fromTop l n = (m : Int) ∧ m < 2 ^ n ∧ ∀ j, j < n → m.testBit j = l.getD (64 - n + j) false := by
  induction n with
  | zero => exact ⟨0, rfl, by decide, fun j hj => absurd hj (Nat.not_lt_zero j)⟩
  | succ n ih =>
    obtain ⟨m, hm, hb, ht⟩ := ih (by omega)
    refine ⟨2 * m + (if l.getD (63 - n) false = true then 1 else 0), ?_, ?_, ?_⟩
    · simp only [fromTop, hm]
      split <;> omega
    · have e : 2 ^ (n + 1) = 2 ^ n * 2 := Nat.pow_succ 2 n
      split <;> omega
    · intro j hj
      cases j with
      | zero =>
        rw [Nat.testBit_zero, show 64 - (n + 1) + 0 = 63 - n by omega]
        cases l.getD (63 - n) false
        · rw [if_neg (by decide)]; simp
        · rw [if_pos rfl]; simp
      | succ j =>
        rw [Nat.testBit_add_one, show 64 - (n + 1) + (j + 1) = 64 - n + j by omega, ← ht j (by omega)]
        congr 1
        split <;> omega
theorem wordB_nat (l : List Bool) : ∃ m : Nat, wordB l = (m : Int) ∧ m < 2 ^ 64 ∧ ∀ j, j < 64 → m.testBit j = l.getD j false := by
  obtain ⟨m, h1, h2, h3⟩ := fromTop_nat l 64 (Nat.le_refl _)
  refine ⟨m, h1, h2, fun j hj => ?_⟩
  have e : 64 - 64 + j = j := by omega
  have t := h3 j hj
  rw [e] at t
  exact t
theorem wordB_eq (l : List Bool) (x : Nat) (hx : x < 2 ^ 64) (h : ∀ j, j < 64 → l.getD j false = x.testBit j) : wordB l = (x : Int) := by
  obtain ⟨m, h1, h2, h3⟩ := wordB_nat l
  have hmx : m = x := by
    refine Nat.eq_of_testBit_eq fun i => ?_
    by_cases c : i < 64
    · rw [h3 i c, h i c]
    · rw [Nat.testBit_lt_two_pow (Nat.lt_of_lt_of_le h2 (Nat.pow_le_pow_right (by decide) (by omega))), Nat.testBit_lt_two_pow (Nat.lt_of_lt_of_le hx (Nat.pow_le_pow_right (by decide) (by omega)))]
  rw [h1, hmx]
/-- A run that is free, or not, by its mask. -/
theorem all_free (x a n : Nat) (han : a + n ≤ 64) : (x &&& maskN a n = maskN a n) ↔ (List.range n).all (fun i => (bitL (x : Int) 64).getD (a + i) false == true) = true := by
  rw [List.all_eq_true]
  constructor
  · intro h i hi
    have hi' := List.mem_range.mp hi
    rw [bitL_get x (a + i) (by omega)]
    have t := congrArg (fun z => Nat.testBit z (a + i)) h
    simp only [Nat.testBit_and, maskN_bit] at t
    rw [decide_eq_true (show a ≤ a + i by omega), decide_eq_true (show a + i < a + n by omega)] at t
    simpa using t
  · intro h
    refine Nat.eq_of_testBit_eq fun j => ?_
    rw [Nat.testBit_and, maskN_bit]
    by_cases c : a ≤ j ∧ j < a + n
    · have t := h (j - a) (List.mem_range.mpr (by omega))
      rw [show a + (j - a) = j by omega, bitL_get x j (by omega)] at t
      rw [eq_of_beq t, Bool.true_and]
    · by_cases c1 : a ≤ j
      · rw [decide_eq_false (show ¬ j < a + n by omega)]; simp
      · rw [decide_eq_false c1]; simp
theorem none_free (x a n : Nat) (han : a + n ≤ 64) : (x &&& maskN a n = 0) ↔ (List.range n).all (fun i => (bitL (x : Int) 64).getD (a + i) false == false) = true := by
  rw [List.all_eq_true]
  constructor
  · intro h i hi
    have hi' := List.mem_range.mp hi
    rw [bitL_get x (a + i) (by omega)]
    have t := congrArg (fun z => Nat.testBit z (a + i)) h
    simp only [Nat.testBit_and, maskN_bit, Nat.zero_testBit] at t
    rw [decide_eq_true (show a ≤ a + i by omega), decide_eq_true (show a + i < a + n by omega)] at t
    simpa using t
  · intro h
    refine Nat.eq_of_testBit_eq fun j => ?_
    rw [Nat.testBit_and, maskN_bit, Nat.zero_testBit]
    by_cases c : a ≤ j ∧ j < a + n
    · have t := h (j - a) (List.mem_range.mpr (by omega))
      rw [show a + (j - a) = j by omega, bitL_get x j (by omega)] at t
      rw [eq_of_beq t, Bool.false_and]
    · by_cases c1 : a ≤ j
      · rw [decide_eq_false (show ¬ j < a + n by omega)]; simp
      · rw [decide_eq_false c1]; simp
theorem withL_get (x a n j : Nat) (f : Bool) (hj : j < 64) : (withL (bitL (x : Int) 64) a n f).getD j false = if a ≤ j ∧ j < a + n then f else x.testBit j := by
  have e : (withL (bitL (x : Int) 64) a n f).getD j false = if a ≤ j ∧ j < a + n then f else (bitL (x : Int) 64).getD j false := by
    simp [withL, hj]
  rw [e, bitL_get x j hj]
theorem take_word (x a n : Nat) (hx : x < 2 ^ 64) (han : a + n ≤ 64) : wordB (withL (bitL (x : Int) 64) a n false) = bits .andNot .u64 (x : Int) (maskN a n : Int) := by
  rw [andNot_n x _ hx (maskN_lt a n han)]
  refine wordB_eq _ _ (Nat.and_lt_two_pow _ (by omega)) fun j hj => ?_
  rw [withL_get x a n j false hj, Nat.testBit_and, Nat.testBit_two_pow_sub_succ (maskN_lt a n han), maskN_bit, decide_eq_true hj]
  by_cases c : a ≤ j ∧ j < a + n
  · rw [if_pos c, decide_eq_true c.1, decide_eq_true c.2]; simp
  · rw [if_neg c]
    by_cases c1 : a ≤ j
    · rw [decide_eq_false (show ¬ j < a + n by omega)]; simp
    · rw [decide_eq_false c1]; simp
theorem give_word (x a n : Nat) (hx : x < 2 ^ 64) (han : a + n ≤ 64) : wordB (withL (bitL (x : Int) 64) a n true) = bits .or .u64 (x : Int) (maskN a n : Int) := by
  rw [or_n x _ hx (maskN_lt a n han)]
  refine wordB_eq _ _ (Nat.or_lt_two_pow hx (maskN_lt a n han)) fun j hj => ?_
  rw [withL_get x a n j true hj, Nat.testBit_or, maskN_bit]
  by_cases c : a ≤ j ∧ j < a + n
  · rw [if_pos c, decide_eq_true c.1, decide_eq_true c.2]; simp
  · rw [if_neg c]
    by_cases c1 : a ≤ j
    · rw [decide_eq_false (show ¬ j < a + n by omega)]; simp
    · rw [decide_eq_false c1]; simp
end Go.Proofs.Ytbmddfkmlhmbgaa.Hand
