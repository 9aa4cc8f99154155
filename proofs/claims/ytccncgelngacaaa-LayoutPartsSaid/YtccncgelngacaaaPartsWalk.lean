/- Proved here: the Go function LayoutParts returns true at any three numbers, and what 'mark' does to memory; no condition. -/
import Derived.Test.YtccncgelngacaaaPLayoutPartsx2
import Derived.Test.YtccncgelngacaaaHand
import Derived.Test.YtccncgelngacaaaMark
import Derived.OpenShut
import Derived.Laws.Tables
import Derived.Laws.CopyRow
import Derived.Laws.MakeOwn
import Derived.LoopTactic
import Derived.Lib.Hide
import Derived.RegionTactic
import Derived.Deep.RegionWith
import Derived.Deep.RegionHeld3
namespace Go.Proofs.Ytccncgelngacaaa.PLayoutParts
open Go.RowKit Go.Proofs.YtccncgelngacaaaW.PrintWords Go.Proofs.YtccncgelngacaaaW.PrintLast Go.Proofs.YtccncgelngacaaaW.PrintMore
set_option linter.unusedVariables false
set_option linter.unusedSimpArgs false
theorem wk (k : Nat) (h : 1 ≤ k) : demesnelaw06_wakes.f k = some true :=
  at_rounds demesnelaw06_wakes.mono h (by decide +kernel)
theorem wr (x : Int) (h0 : -1000000 ≤ x) (h1 : x ≤ 1000000) : wrap64 x = x := by unfold wrap64; omega
theorem tdiv33 (x : Int) (h : -1000000 ≤ x) (_h1 : x ≤ 1000000) : (x < 33 → Int.tdiv x 33 < 1 ∧ -1000000 ≤ Int.tdiv x 33) ∧ (33 ≤ x → Int.tdiv x 33 = x / 33) := by
  refine ⟨fun hx => ?_, fun hx => Int.tdiv_eq_ediv_of_nonneg (by omega)⟩
  by_cases h0 : 0 ≤ x
  · rw [Int.tdiv_eq_ediv_of_nonneg h0]; omega
  · obtain ⟨n, rfl⟩ : ∃ n : Int, x = -n := ⟨-x, by omega⟩
    rw [Int.neg_tdiv, Int.tdiv_eq_ediv_of_nonneg (by omega)]; omega
def nb (w t g : Int) : Int := if w - 3 - t - g < 33 then 0 else if (w - 3 - t - g) / 33 ≤ 64 then (w - 3 - t - g) / 33 else 64
def newp (w t g : Int) : Int × Int × Int × Int :=
  if w < 1 ∨ w > 4096 ∨ t < 1 ∨ t > 64 ∨ g < 0 ∨ g > 8 then (0, 0, 0, 2) else if nb w t g = 0 then (0, 0, 0, 4) else (t, g, nb w t g, 0)
theorem nb_bd (w t g : Int) : 0 ≤ nb w t g ∧ nb w t g ≤ 64 ∧ (nb w t g = 64 ∨ w < 3 + t + g + 33 * (nb w t g + 1)) ∧ (nb w t g = 0 ∨ 3 + t + g + 33 * nb w t g ≤ w) := by
  unfold nb
  repeat' split
  all_goals omega
theorem new_early (k : Nat) (w t g : Int) : layout_New.j0 (k + 1) w t g true = some (0, 0, 0, 2) := by
  simp only [layout_New.j0]; rfl
theorem new_eq (w t g : Int) : layout_New.f 1 w t g = some (newp w t g) := by
  unfold layout_New.f newp
  by_cases h1 : w < 1
  · rw [if_pos h1, new_early 0, if_pos (by omega)]
  by_cases h2 : w > 4096
  · rw [if_neg h1, if_pos h2, new_early 0, if_pos (by omega)]
  by_cases h3 : t < 1
  · rw [if_neg h1, if_neg h2, if_pos h3, new_early 0, if_pos (by omega)]
  by_cases h4 : t > 64
  · rw [if_neg h1, if_neg h2, if_neg h3, if_pos h4, new_early 0, if_pos (by omega)]
  by_cases h5 : g < 0
  · rw [if_neg h1, if_neg h2, if_neg h3, if_neg h4, if_pos h5, new_early 0, if_pos (by omega)]
  rw [if_neg h1, if_neg h2, if_neg h3, if_neg h4, if_neg h5]
  by_cases h6 : g > 8
  · rw [decide_eq_true h6, new_early 0, if_pos (by omega)]
  rw [decide_eq_false h6, if_neg (by omega)]
  simp only [layout_New.j0]
  have e1 := wr (w - 3) (by omega) (by omega)
  have e2 := wr (w - 3 - t) (by omega) (by omega)
  have e3 := wr (w - 3 - t - g) (by omega) (by omega)
  rw [e1, e2, e3, if_neg (by decide)]
  obtain ⟨d1, d2⟩ := tdiv33 (w - 3 - t - g) (by omega) (by omega)
  unfold nb
  by_cases c : w - 3 - t - g < 33
  · obtain ⟨q1, q2⟩ := d1 c
    rw [if_pos c, if_pos rfl, wr _ q2 (by omega), if_pos (by unfold mn; split <;> omega)]
  · have q := d2 (by omega)
    rw [if_neg c, q, wr _ (by omega) (by omega)]
    have em : mn 64 ((w - 3 - t - g) / 33) = if (w - 3 - t - g) / 33 ≤ 64 then (w - 3 - t - g) / 33 else 64 := by
      unfold mn
      repeat' split
      all_goals omega
    rw [em]
    by_cases c2 : (w - 3 - t - g) / 33 ≤ 64
    · simp only [if_pos c2]
      rw [if_neg (by omega), if_neg (by omega)]
    · simp only [if_neg c2]
      rw [if_neg (by decide), if_neg (by decide)]
theorem words_eq {t g b : Int} (ht : 1 ≤ t ∧ t ≤ 64) (hg : 0 ≤ g ∧ g ≤ 8) (hb : 1 ≤ b ∧ b ≤ 64) : layout_Layout_Words.f t g b = some (3 + t + g + 33 * b) := by
  unfold layout_Layout_Words.f layout_Layout_table.f
  rw [if_neg (by simp; omega), Option.bind_some, wr (3 + t) (by omega) (by omega), wr (3 + t + g) (by omega) (by omega), wr (b * 33) (by omega) (by omega), wr _ (by omega) (by omega)]
  congr 1; omega
theorem answer_eq {t g b : Int} (ht : 1 ≤ t ∧ t ≤ 64) (hg : 0 ≤ g ∧ g ≤ 8) (hb : 1 ≤ b ∧ b ≤ 64) (i : Int) : layout_Layout_Answer.f t g b i = some (if i < 0 ∨ t ≤ i then -1 else 3 + i) := by
  unfold layout_Layout_Answer.f
  by_cases c : i < 0 ∨ t ≤ i
  · rw [if_pos c, if_pos c]
  · rw [if_neg c, if_neg c, Int.mul_one, wr i (by omega) (by omega), wr _ (by omega) (by omega)]
theorem global_eq {t g b : Int} (ht : 1 ≤ t ∧ t ≤ 64) (hg : 0 ≤ g ∧ g ≤ 8) (hb : 1 ≤ b ∧ b ≤ 64) (i : Int) : layout_Layout_Global.f t g b i = some (if i < 0 ∨ g ≤ i then -1 else 3 + t + i) := by
  unfold layout_Layout_Global.f
  by_cases c : i < 0 ∨ g ≤ i
  · rw [if_pos c, if_pos c]
  · rw [if_neg c, if_neg c, Int.mul_one, wr i (by omega) (by omega), wr (3 + t) (by omega) (by omega), wr _ (by omega) (by omega)]
theorem entry_eq {t g b : Int} (ht : 1 ≤ t ∧ t ≤ 64) (hg : 0 ≤ g ∧ g ≤ 8) (hb : 1 ≤ b ∧ b ≤ 64) (i : Int) : layout_Layout_Entry.f t g b i = some (if i < 0 ∨ b ≤ i then -1 else 3 + t + g + i) := by
  unfold layout_Layout_Entry.f
  by_cases c : i < 0 ∨ b ≤ i
  · rw [if_pos c, if_pos c]
  · rw [if_neg c, if_neg c, Int.mul_one, wr i (by omega) (by omega), wr (3 + t) (by omega) (by omega), wr (3 + t + g) (by omega) (by omega), wr _ (by omega) (by omega)]
theorem start_eq {t g b : Int} (ht : 1 ≤ t ∧ t ≤ 64) (hg : 0 ≤ g ∧ g ≤ 8) (hb : 1 ≤ b ∧ b ≤ 64) (i : Int) : layout_Layout_Start.f t g b i = some (if i < 0 ∨ b ≤ i then -1 else 3 + t + g + b + 32 * i) := by
  unfold layout_Layout_Start.f
  by_cases c : i < 0 ∨ b ≤ i
  · rw [if_pos c, if_pos c]
  · rw [if_neg c, if_neg c, wr (i * 32) (by omega) (by omega), wr (3 + t) (by omega) (by omega), wr (3 + t + g) (by omega) (by omega), wr (3 + t + g + b) (by omega) (by omega), wr _ (by omega) (by omega), Int.mul_comm i 32]
theorem newp_cases2 (w t g : Int) : (∃ e, newp w t g = (0, 0, 0, e) ∧ (e = 2 ∨ e = 4)) ∨ ∃ b, newp w t g = (t, g, b, 0) ∧ 1 ≤ w ∧ w ≤ 4096 ∧ 1 ≤ t ∧ t ≤ 64 ∧ 0 ≤ g ∧ g ≤ 8 ∧ 1 ≤ b ∧ b ≤ 64 ∧ (b = 64 ∨ w < 3 + t + g + 33 * (b + 1)) ∧ 3 + t + g + 33 * b ≤ w := by
  unfold newp
  by_cases c : w < 1 ∨ w > 4096 ∨ t < 1 ∨ t > 64 ∨ g < 0 ∨ g > 8
  · rw [if_pos c]; exact .inl ⟨2, rfl, .inl rfl⟩
  rw [if_neg c]
  by_cases d : nb w t g = 0
  · rw [if_pos d]; exact .inl ⟨4, rfl, .inr rfl⟩
  · rw [if_neg d]
    obtain ⟨n1, n2, n3, n4⟩ := nb_bd w t g
    exact .inr ⟨nb w t g, rfl, by omega, by omega, by omega, by omega, by omega, by omega, by omega, by omega, n3, by omega⟩
set_option maxRecDepth 100000 in
set_option maxHeartbeats 4000000 in
theorem parts_err (w0 t0 g0 e0 : Int) (w : World) (hN : layout_New.f 1 w0 t0 g0 = some (0, 0, 0, e0)) (he : e0 = 2 ∨ e0 = 4) :
    Calls Try.prog 3 #[.int .i64 w0, .int .i64 t0, .int .i64 g0] w fun e w' => e = .returned (.bool true) ∧ Below w.heap.size w w' := by
  have HN := Lib.hid hN
  clear hN
  have hW : layout_Layout_Words.f 0 0 0 = some 0 := by decide +kernel
  have HWo := Lib.hid hW
  have HWk := Lib.hid (wk 1 (by omega))
  clear hW
  rcases he with rfl | rfl
  all_goals
    go_enter Try.func3, Try.ntmps3
    go_wp2_with fail
    refine (layout_New.calls 1 _ _ _ _ _ _ _ _ HN.out).mono ?_
    rintro e w1 ⟨rfl, hb1⟩
    have HB1 := Lib.hid hb1
    have HL1 := Lib.hid hb1.size
    clear hb1
    go_wp2_with fail
    refine (layout_Layout_Words.calls _ _ _ _ _ HWo.out).mono ?_
    rintro e w2 ⟨rfl, hb2⟩
    have HB2 := Lib.hid ((HB1.out.alloc HL1.out _).trans (hb2.mono (by have := HL1.out; simp; omega)))
    clear hb2
    go_wp2_with fail
    refine (demesnelaw06_wakes.calls 1 _ _ HWk.out).mono ?_
    rintro e w3 ⟨rfl, hb3⟩
    have HB3 := Lib.hid (HB2.out.trans (hb3.mono HB2.out.size))
    clear hb3
    go_wp2
    go_ret
    exact ⟨rfl, HB3.out⟩
theorem below_row {B : Nat} {w W : World} (h : Below B w W) (g : Nat) (hg : B ≤ g) (cs : Array Value) : Below B w (W.setRow g cs) :=
  ⟨h.os, h.tape, h.output, by rw [setRow_size]; exact h.size, fun i hi => by
    rw [← h.block i hi]
    exact setRow_other _ _ _ _ (by omega)⟩
structure St (w W : World) (g7 g9 g10 gs : Nat) (t g b : Int) (n : Nat) (P : Nat → Bool) : Prop where
  h7 : W.heap[g7]? = some (.cells #[.int .i64 t, .int .i64 g, .int .i64 b] 23 (0, 0))
  h9 : W.heap[g9]? = some (.cells #[.int .i64 n] 3 (0, 0))
  h10 : W.heap[g10]? = some (.cells #[.slice (some ⟨gs, 0, none⟩) n n] 29 (0, 0))
  hs : W.heap[gs]? = some (.cells (Hand.seenC n P) 3 (0, 0))
  bel : Below w.heap.size w W
theorem lt_of_heap {W : World} {g : Nat} {o : Obj} (h : W.heap[g]? = some o) : g < W.heap.size := by
  by_cases c : g < W.heap.size
  · exact c
  · have hn : W.heap[g]? = none := by simp; omega
    rw [hn] at h; cases h
structure S0 (w W : World) (g7 g9 : Nat) (t g b : Int) (n : Nat) : Prop where
  h7 : W.heap[g7]? = some (.cells #[.int .i64 t, .int .i64 g, .int .i64 b] 23 (0, 0))
  h9 : W.heap[g9]? = some (.cells #[.int .i64 n] 3 (0, 0))
  bel : Below w.heap.size w W
theorem S0.below {w W W' : World} {g7 g9 : Nat} {t g b : Int} {n : Nat} (s : S0 w W g7 g9 t g b n) (h : Below W.heap.size W W') : S0 w W' g7 g9 t g b n :=
  ⟨(h.block _ (lt_of_heap s.h7)).trans s.h7, (h.block _ (lt_of_heap s.h9)).trans s.h9, s.bel.trans (h.mono s.bel.size)⟩
theorem S0.c7 {w W : World} {g7 g9 : Nat} {t g b : Int} {n : Nat} (s : S0 w W g7 g9 t g b n) : W.cell? ⟨g7, 0, none⟩ = some (.int .i64 t) ∧ W.cell? ⟨g7, 1, none⟩ = some (.int .i64 g) ∧ W.cell? ⟨g7, 2, none⟩ = some (.int .i64 b) ∧ W.cell? ⟨g9, 0, none⟩ = some (.int .i64 n) :=
  ⟨(cell_of_row _ _ _ _ _ _ s.h7).trans rfl, (cell_of_row _ _ _ _ _ _ s.h7).trans rfl, (cell_of_row _ _ _ _ _ _ s.h7).trans rfl, (cell_of_row _ _ _ _ _ _ s.h9).trans rfl⟩
theorem St.below {w W W' : World} {g7 g9 g10 gs : Nat} {t g b : Int} {n : Nat} {P : Nat → Bool} (s : St w W g7 g9 g10 gs t g b n P) (h : Below W.heap.size W W') : St w W' g7 g9 g10 gs t g b n P :=
  ⟨(h.block _ (lt_of_heap s.h7)).trans s.h7, (h.block _ (lt_of_heap s.h9)).trans s.h9, (h.block _ (lt_of_heap s.h10)).trans s.h10, (h.block _ (lt_of_heap s.hs)).trans s.hs, s.bel.trans (h.mono s.bel.size)⟩
theorem St.mark {w W : World} {g7 g9 g10 gs : Nat} {t g b : Int} {n : Nat} {P : Nat → Bool} (s : St w W g7 g9 g10 gs t g b n P) (a k : Nat) (d7 : g7 ≠ gs) (d9 : g9 ≠ gs) (d10 : g10 ≠ gs) (dw : w.heap.size ≤ gs) :
    St w (W.setRow gs (Hand.seenC n (Hand.addR P a k))) g7 g9 g10 gs t g b n (Hand.addR P a k) :=
  ⟨(setRow_other _ _ _ _ d7).trans s.h7, (setRow_other _ _ _ _ d9).trans s.h9, (setRow_other _ _ _ _ d10).trans s.h10, setRow_heap _ _ _ _ _ _ s.hs, below_row s.bel _ dw _⟩
theorem St.c7 {w W : World} {g7 g9 g10 gs : Nat} {t g b : Int} {n : Nat} {P : Nat → Bool} (s : St w W g7 g9 g10 gs t g b n P) : W.cell? ⟨g7, 0, none⟩ = some (.int .i64 t) ∧ W.cell? ⟨g7, 1, none⟩ = some (.int .i64 g) ∧ W.cell? ⟨g7, 2, none⟩ = some (.int .i64 b) ∧ W.cell? ⟨g9, 0, none⟩ = some (.int .i64 n) ∧ W.cell? ⟨g10, 0, none⟩ = some (.slice (some ⟨gs, 0, none⟩) n n) :=
  ⟨(cell_of_row _ _ _ _ _ _ s.h7).trans rfl, (cell_of_row _ _ _ _ _ _ s.h7).trans rfl, (cell_of_row _ _ _ _ _ _ s.h7).trans rfl, (cell_of_row _ _ _ _ _ _ s.h9).trans rfl, (cell_of_row _ _ _ _ _ _ s.h10).trans rfl⟩
theorem St.drew {w W : World} {g7 g9 g10 gs : Nat} {t g b : Int} {n : Nat} {P : Nat → Bool} (s : St w W g7 g9 g10 gs t g b n P) : St w W.drew g7 g9 g10 gs t g b n P :=
  ⟨s.h7, s.h9, s.h10, s.hs, s.bel.drew⟩
theorem withS {f : FuncId} {args : Array Value} {W w : World} {r : Value} {g7 g9 g10 gs : Nat} {t g b : Int} {n : Nat} {P : Nat → Bool} (hs : W.cell? ⟨g7, 0, none⟩ = some (.int .i64 t) ∧ W.cell? ⟨g7, 1, none⟩ = some (.int .i64 g) ∧ W.cell? ⟨g7, 2, none⟩ = some (.int .i64 b) ∧ Hid (St w W g7 g9 g10 gs t g b n P)) (h : Calls Try.prog f args W fun e w' => e = .returned r ∧ Below W.heap.size W w') :
    Calls Try.prog f args W fun e w' => e = .returned r ∧ (w'.cell? ⟨g7, 0, none⟩ = some (.int .i64 t) ∧ w'.cell? ⟨g7, 1, none⟩ = some (.int .i64 g) ∧ w'.cell? ⟨g7, 2, none⟩ = some (.int .i64 b) ∧ Hid (St w w' g7 g9 g10 gs t g b n P)) :=
  h.mono fun e w' ⟨he, hb⟩ => ⟨he, (hs.2.2.2.out.below hb).c7.1, (hs.2.2.2.out.below hb).c7.2.1, (hs.2.2.2.out.below hb).c7.2.2.1, Lib.hid (hs.2.2.2.out.below hb)⟩
theorem made_seen (n : Nat) : madeCells #[.int .i64 0] n = Hand.seenC n (fun _ => false) := by
  unfold madeCells Hand.seenC
  apply Array.ext'
  simp
  intro a h
  rw [Nat.mod_one]
  rfl
set_option maxRecDepth 100000 in
set_option maxHeartbeats 8000000 in
theorem parts_main (w0 : Int) (T G B n : Nat) (w : World) (hN : layout_New.f 1 w0 T G = some ((T : Int), (G : Int), (B : Int), 0)) (hw : 1 ≤ w0) (hw' : w0 ≤ 4096) (ht1 : 1 ≤ T) (ht2 : T ≤ 64) (hg2 : G ≤ 8) (hb1 : 1 ≤ B) (hb2 : B ≤ 64)
    (hlast : B = 64 ∨ w0 < 3 + T + G + 33 * (B + 1)) (hfit : 3 + (T : Int) + G + 33 * B ≤ w0) (hn : n = 3 + T + G + 33 * B) :
    Calls Try.prog 3 #[.int .i64 w0, .int .i64 T, .int .i64 G] w fun e w' => e = .returned (.bool true) ∧ Below w.heap.size w w' := by
  have HN := Lib.hid hN
  have HT := Lib.hid (show 1 ≤ (T : Int) ∧ (T : Int) ≤ 64 by omega)
  have HG := Lib.hid (show 0 ≤ (G : Int) ∧ (G : Int) ≤ 8 by omega)
  have HBB := Lib.hid (show 1 ≤ (B : Int) ∧ (B : Int) ≤ 64 by omega)
  have HWo := Lib.hid ((words_eq HT.out HG.out HBB.out).trans (congrArg some (show 3 + (T : Int) + G + 33 * B = (n : Int) by omega)))
  have HWk := Lib.hid (wk 1 (by omega))
  have HNN := Lib.hid hn
  have e1 : decide ((n : Int) < 1) = false := decide_eq_false (by omega)
  have e2 : decide (w0 < (n : Int)) = false := decide_eq_false (by omega)
  have e3 : decide (4096 < w0) = false := decide_eq_false (by omega)
  have e4 : decide ((B : Int) < 1) = false := decide_eq_false (by omega)
  have e5 : decide (64 < (B : Int)) = false := decide_eq_false (by omega)
  have hn4 : n ≤ 4096 := by omega
  obtain ⟨i0, hi, hz0, hz1, hz2⟩ := info_parts (show (Try.prog.info? 3).map (fun i => (i.zero, i.size, i.bytes)) = some (some (.int .i64 0), 1, 8) by kernel_rfl)
  have hmk : ∀ W : World, (Instr.makeSlice 29 (.int .i64 (n : Int)) (.int .i64 (n : Int))).run Try.prog W = .ok (.slice (some ⟨W.heap.size, 0, none⟩) n n) (W.alloc (.cells (Hand.seenC n (fun _ => false)) 3)) := by
    intro W
    have r := run_make (P := Try.prog) W 29 3 i0 (.int .i64 0) Try.underlying29 hi hz0 .i64 .i64 (n : Int) (n : Int) (by omega) (by omega) (by rw [hz2]; omega) (by omega)
    rw [r, hz1, Int.toNat_natCast, Nat.mul_one, ← made_seen]
    rfl
  have HMK := Lib.hid hmk
  have HLast : Hid (B = 64 ∨ w0 - (n : Int) ≤ 32) := Lib.hid (by omega)
  clear hN hlast hfit hn hmk hz0 hz1 hz2 hi
  have hmf : ∀ (fn : Fn) (first cap : Array Value) (w : World), (Instr.makeFunc fn first cap).run Try.prog w = .ok (.func fn first cap) w := fun _ _ _ _ => rfl
  have hmk := HMK.out
  go_enter Try.func3, Try.ntmps3
  go_wp2_with fail
  refine (layout_New.calls 1 _ _ _ _ _ _ _ _ HN.out).mono ?_
  rintro e w1 ⟨rfl, hb1⟩
  have HB1 := Lib.hid hb1
  have HL1 := Lib.hid hb1.size
  clear hb1
  go_wp2_with fail
  refine (layout_Layout_Words.calls _ _ _ _ _ HWo.out).mono ?_
  rintro e w2 ⟨rfl, hb2⟩
  have z2 := hb2.size
  have k2 : w2.heap[w1.heap.size]? = some (.cells #[.int .i64 T, .int .i64 G, .int .i64 B] 23 (0, 0)) := (hb2.block _ (by simp)).trans (heap_alloc_new _ _)
  have HB2 := Lib.hid ((HB1.out.alloc HL1.out _).trans (hb2.mono (by have := HL1.out; simp; omega)))
  have hz2 : w1.heap.size < w2.heap.size := by simp at z2; omega
  have HZ2 := Lib.hid hz2
  have K2 := Lib.hid k2
  have c0 : w2.cell? ⟨w1.heap.size, 0, none⟩ = some (.int .i64 T) := (cell_of_row _ _ _ _ _ _ K2.out).trans rfl
  have c1 : w2.cell? ⟨w1.heap.size, 1, none⟩ = some (.int .i64 G) := (cell_of_row _ _ _ _ _ _ K2.out).trans rfl
  have c2 : w2.cell? ⟨w1.heap.size, 2, none⟩ = some (.int .i64 B) := (cell_of_row _ _ _ _ _ _ K2.out).trans rfl
  clear hb2 z2 k2
  go_wp2_with fail
  have s2 : S0 w (w2.alloc (.cells #[.int .i64 n] 3)) w1.heap.size w2.heap.size T G B n :=
    ⟨(heap_alloc_old _ _ HZ2.out).trans K2.out, heap_alloc_new _ _, HB2.out.alloc HB2.out.size _⟩
  have HS2 := Lib.hid s2
  clear s2 c0 c1 c2
  refine (layout_Layout_Blocks.calls T G B B _ rfl).mono ?_
  rintro e w3 ⟨rfl, hb3⟩
  have HS3 := Lib.hid (HS2.out.below hb3)
  clear hb3
  obtain ⟨c0, c1, c2, c9⟩ := HS3.out.c7
  go_wp2_with fail
  clear c0 c1 c2 c9
  refine (layout_Layout_Blocks.calls T G B B _ rfl).mono ?_
  rintro e w4 ⟨rfl, hb4⟩
  have HS4 := Lib.hid (HS3.out.below hb4)
  clear hb4
  obtain ⟨c0, c1, c2, c9⟩ := HS4.out.c7
  go_wp2_with fail
  clear c0 c1 c2 c9
  refine (layout_Layout_Blocks.calls T G B B _ rfl).mono ?_
  rintro e w5 ⟨rfl, hb5⟩
  have HS5 := Lib.hid (HS4.out.below hb5)
  clear hb5
  obtain ⟨c0, c1, c2, c9⟩ := HS5.out.c7
  have hlast := HLast.out
  by_cases h64 : B = 64
  · have e6 : decide ((B : Int) < 64) = false := decide_eq_false (by omega)
    clear h64 hlast
    go_wp2_with fail
    have s8 : St w ((w5.alloc (.cells (Hand.seenC n fun _ => false) 3)).alloc (.cells #[.slice (some ⟨w5.heap.size, 0, none⟩) n n] 29)) w1.heap.size w2.heap.size (w5.heap.size + 1) w5.heap.size T G B n (Hand.pA 0) := by
      have l7 := lt_of_heap HS5.out.h7
      have l9 := lt_of_heap HS5.out.h9
      have lw := HS5.out.bel.size
      refine ⟨?_, ?_, ?_, ?_, ?_⟩
      · exact (heap_alloc_old _ _ (by simp; omega)).trans ((heap_alloc_old _ _ l7).trans HS5.out.h7)
      · exact (heap_alloc_old _ _ (by simp; omega)).trans ((heap_alloc_old _ _ l9).trans HS5.out.h9)
      · exact heap_alloc2_new _ _ _
      · rw [Hand.pA_zero]; exact heap_alloc2_old _ _ _
      · exact (HS5.out.bel.alloc lw _).alloc (by simp; omega) _
    have HS8 := Lib.hid s8
    have L7 := Lib.hid (Nat.ne_of_lt (lt_of_heap HS5.out.h7))
    have L9 := Lib.hid (Nat.ne_of_lt (lt_of_heap HS5.out.h9))
    have L10 := Lib.hid (show w5.heap.size + 1 ≠ w5.heap.size by omega)
    have LW := Lib.hid HS5.out.bel.size
    clear s8 c0 c1 c2 c9
    refine (Hand.mark_int n 0 1 _ _ (by rfl) (by rfl) (Hand.pA 0) _ _ _ _ L9.out L10.out HS8.out.h9 HS8.out.h10 HS8.out.hs hn4 (by have := HNN.out; omega) (fun i h _ => by unfold Hand.pA; exact decide_eq_false (by omega))).mono ?_
    rintro e w6 ⟨rfl, hw⟩
    have HS9 : Hid (St w w6 w1.heap.size w2.heap.size (w5.heap.size + 1) w5.heap.size T G B n (Hand.pA (0 + 1))) := by
      have s := HS8.out.mark 0 1 L7.out L9.out L10.out LW.out
      rw [hw, Hand.pA_add] at s
      exact Lib.hid s
    clear hw
    go_wp2_with fail
    refine (Hand.mark_int n 1 1 _ _ (by rfl) (by rfl) (Hand.pA 1) _ _ _ _ L9.out L10.out HS9.out.h9 HS9.out.h10 HS9.out.hs hn4 (by have := HNN.out; omega) (fun i h _ => by unfold Hand.pA; exact decide_eq_false (by omega))).mono ?_
    rintro e w7 ⟨rfl, hw⟩
    have HSA : Hid (St w w7 w1.heap.size w2.heap.size (w5.heap.size + 1) w5.heap.size T G B n (Hand.pA (1 + 1))) := by
      have s := HS9.out.mark 1 1 L7.out L9.out L10.out LW.out
      rw [hw, Hand.pA_add] at s
      exact Lib.hid s
    clear hw
    go_wp2_with fail
    refine (Hand.mark_int n 2 1 _ _ (by rfl) (by rfl) (Hand.pA 2) _ _ _ _ L9.out L10.out HSA.out.h9 HSA.out.h10 HSA.out.hs hn4 (by have := HNN.out; omega) (fun i h _ => by unfold Hand.pA; exact decide_eq_false (by omega))).mono ?_
    rintro e w8 ⟨rfl, hw⟩
    have HSB : Hid (St w w8 w1.heap.size w2.heap.size (w5.heap.size + 1) w5.heap.size T G B n (Hand.pA (2 + 1))) := by
      have s := HSA.out.mark 2 1 L7.out L9.out L10.out LW.out
      rw [hw, Hand.pA_add] at s
      exact Lib.hid s
    clear hw
    go_wp2
    go_loopw [12, 13] (fun v12 v13 wr => ∃ (j : Nat), j ≤ T ∧ v12 = .bool true ∧ v13 = .int .i64 j ∧ Hid (St w wr w1.heap.size w2.heap.size (w5.heap.size + 1) w5.heap.size T G B n (Hand.pA (3 + j)))) (fun _ v13 _ => T - (intOf v13).toNat)
    case atStart => exact ⟨0, by omega, rfl, rfl, HSB⟩
    case round =>
      obtain ⟨j, hj, rfl, rfl, HS⟩ := hrel
      by_cases hlt : j < T
      · obtain ⟨c0, c1, c2, c9, c10⟩ := HS.out.c7
        have ha := (answer_eq HT.out HG.out HBB.out (j : Int)).trans (congrArg some (if_neg (show ¬ ((j : Int) < 0 ∨ (T : Int) ≤ (j : Int)) by omega)))
        have HA := Lib.hid ha
        clear ha
        go_wp2_with fail
        clear c0 c1 c2 c9 c10
        refine (layout_Layout_Answer.calls T G B j _ _ HA.out).mono ?_
        rintro e wa ⟨rfl, hb⟩
        have HSa := Lib.hid (HS.out.below hb)
        clear hb
        go_wp2_with fail
        refine (Hand.mark_int n (3 + j) 1 _ _ (by omega) (by rfl) (Hand.pA (3 + j)) _ _ _ _ L9.out L10.out HSa.out.h9 HSa.out.h10 HSa.out.hs hn4 (by have := HNN.out; omega) (fun i h _ => by unfold Hand.pA; exact decide_eq_false (by omega))).mono ?_
        rintro e wb ⟨rfl, hw⟩
        have HSb : Hid (St w wb w1.heap.size w2.heap.size (w5.heap.size + 1) w5.heap.size T G B n (Hand.pA (3 + j + 1))) := by
          have s := HSa.out.mark (3 + j) 1 L7.out L9.out L10.out LW.out
          rw [hw, Hand.pA_add] at s
          exact Lib.hid s
        clear hw
        go_wp2
        go_roundw
        case rel => exact ⟨j + 1, by omega, rfl, by go_num, HSb⟩
        case measure => simp [intOf]; omega
      · obtain rfl : T = j := by omega
        clear hlt hj
        go_wp2
        go_loopw [12, 14] (fun v12 v14 wr => ∃ (j : Nat), j ≤ G ∧ v12 = .bool true ∧ v14 = .int .i64 j ∧ Hid (St w wr w1.heap.size w2.heap.size (w5.heap.size + 1) w5.heap.size T G B n (Hand.pA (3 + T + j)))) (fun _ v14 _ => G - (intOf v14).toNat)
        case atStart => exact ⟨0, by omega, rfl, rfl, HS⟩
        case round =>
          obtain ⟨j, hj, rfl, rfl, HS2⟩ := hrel
          clear HS
          by_cases hlt : j < G
          · obtain ⟨c0, c1, c2, c9, c10⟩ := HS2.out.c7
            have ha := (global_eq HT.out HG.out HBB.out (j : Int)).trans (congrArg some (if_neg (show ¬ ((j : Int) < 0 ∨ (G : Int) ≤ (j : Int)) by omega)))
            have HA := Lib.hid ha
            clear ha
            go_wp2_with fail
            clear c0 c1 c2 c9 c10
            refine (layout_Layout_Global.calls T G B j _ _ HA.out).mono ?_
            rintro e wa ⟨rfl, hb⟩
            have HSa := Lib.hid (HS2.out.below hb)
            clear hb
            go_wp2_with fail
            refine (Hand.mark_int n (3 + T + j) 1 _ _ (by omega) (by rfl) (Hand.pA (3 + T + j)) _ _ _ _ L9.out L10.out HSa.out.h9 HSa.out.h10 HSa.out.hs hn4 (by have := HNN.out; omega) (fun i h _ => by unfold Hand.pA; exact decide_eq_false (by omega))).mono ?_
            rintro e wb ⟨rfl, hw⟩
            have HSb : Hid (St w wb w1.heap.size w2.heap.size (w5.heap.size + 1) w5.heap.size T G B n (Hand.pA (3 + T + j + 1))) := by
              have s := HSa.out.mark (3 + T + j) 1 L7.out L9.out L10.out LW.out
              rw [hw, Hand.pA_add] at s
              exact Lib.hid s
            clear hw
            go_wp2
            go_roundw
            case rel => exact ⟨j + 1, by omega, rfl, by go_num, HSb⟩
            case measure => simp [intOf]; omega
          · obtain rfl : G = j := by omega
            have HS3 : Hid (St w wr w1.heap.size w2.heap.size (w5.heap.size + 1) w5.heap.size T G B n (Hand.pB (3 + T + G) (3 + T + G + B) 0)) := Lib.hid (by rw [Hand.pB_zero]; exact HS2.out)
            clear hlt hj HS2
            go_wp2
            go_loopw [12, 15] (fun v12 v15 wr => ∃ (j : Nat), j ≤ B ∧ v12 = .bool true ∧ v15 = .int .i64 j ∧ Hid (St w wr w1.heap.size w2.heap.size (w5.heap.size + 1) w5.heap.size T G B n (Hand.pB (3 + T + G) (3 + T + G + B) j))) (fun _ v15 _ => B - (intOf v15).toNat)
            case atStart => exact ⟨0, by omega, rfl, rfl, HS3⟩
            case round =>
              obtain ⟨j, hj, rfl, rfl, HS4⟩ := hrel
              clear HS3
              obtain ⟨c0, c1, c2, c9, c10⟩ := HS4.out.c7
              go_wp2_with fail
              clear c0 c1 c2 c9 c10
              refine (layout_Layout_Blocks.calls T G B B _ rfl).mono ?_
              rintro e wq ⟨rfl, hb⟩
              have HS5' := Lib.hid (HS4.out.below hb)
              clear hb
              by_cases hlt : j < B
              · obtain ⟨c0, c1, c2, c9, c10⟩ := HS5'.out.c7
                have ha := (entry_eq HT.out HG.out HBB.out (j : Int)).trans (congrArg some (if_neg (show ¬ ((j : Int) < 0 ∨ (B : Int) ≤ (j : Int)) by omega)))
                have hs := (start_eq HT.out HG.out HBB.out (j : Int)).trans (congrArg some (if_neg (show ¬ ((j : Int) < 0 ∨ (B : Int) ≤ (j : Int)) by omega)))
                have HA := Lib.hid ha
                have HSt := Lib.hid hs
                clear ha hs
                go_wp2_with fail
                clear c0 c1 c2 c9 c10
                refine (layout_Layout_Entry.calls T G B j _ _ HA.out).mono ?_
                rintro e wa ⟨rfl, hb⟩
                have HSa := Lib.hid (HS5'.out.below hb)
                clear hb
                go_wp2_with fail
                refine (Hand.mark_int n (3 + T + G + j) 1 _ _ (by omega) (by rfl) (Hand.pB (3 + T + G) (3 + T + G + B) j) _ _ _ _ L9.out L10.out HSa.out.h9 HSa.out.h10 HSa.out.hs hn4 (by have := HNN.out; omega) (fun i h h' => Hand.pB_no1i _ _ _ _ (by omega) h h')).mono ?_
                rintro e wb ⟨rfl, hw⟩
                have HSb : Hid (St w wb w1.heap.size w2.heap.size (w5.heap.size + 1) w5.heap.size T G B n (Hand.addR (Hand.pB (3 + T + G) (3 + T + G + B) j) (3 + T + G + j) 1)) := by
                  have s := HSa.out.mark (3 + T + G + j) 1 L7.out L9.out L10.out LW.out
                  rw [hw] at s
                  exact Lib.hid s
                clear hw
                obtain ⟨c0, c1, c2, c9, c10⟩ := HSb.out.c7
                go_wp2_with fail
                clear c0 c1 c2 c9 c10
                refine (layout_Layout_Start.calls T G B j _ _ HSt.out).mono ?_
                rintro e wc ⟨rfl, hb⟩
                have HSc := Lib.hid (HSb.out.below hb)
                clear hb
                go_wp2_with fail
                refine (Hand.mark_int n (3 + T + G + B + 32 * j) 32 _ _ (by omega) (by rfl) (Hand.addR (Hand.pB (3 + T + G) (3 + T + G + B) j) (3 + T + G + j) 1) _ _ _ _ L9.out L10.out HSc.out.h9 HSc.out.h10 HSc.out.hs hn4 (by have := HNN.out; omega) (fun i h h' => Hand.pB_no2 _ _ _ _ (by omega) h)).mono ?_
                rintro e wd ⟨rfl, hw⟩
                have HSd : Hid (St w wd w1.heap.size w2.heap.size (w5.heap.size + 1) w5.heap.size T G B n (Hand.pB (3 + T + G) (3 + T + G + B) (j + 1))) := by
                  have s := HSc.out.mark (3 + T + G + B + 32 * j) 32 L7.out L9.out L10.out LW.out
                  rw [hw, Hand.pB_add _ _ _ (by omega)] at s
                  exact Lib.hid s
                clear hw
                go_wp2
                go_roundw
                case rel => exact ⟨j + 1, by omega, rfl, by go_num, HSd⟩
                case measure => simp [intOf]; omega
              · obtain rfl : B = j := by omega
                clear hlt hj HS4
                go_wp2
                obtain ⟨c0, c1, c2, c9, c10⟩ := HS5'.out.c7
                have HELL : Hid (∀ i, i < n → wq.cell? ⟨w5.heap.size, i, none⟩ = some (.int .i64 1)) := Lib.hid (fun i hi => (cell_of_row _ _ _ _ _ _ HS5'.out.hs).trans (Hand.seen_all n (3 + T + G) (3 + T + G + B) B i rfl (by have := HNN.out; omega) hi))
                go_loop [12, 16] (fun v12 v16 => ∃ (j : Nat), j ≤ n ∧ v12 = .bool true ∧ v16 = .int .i64 j) (fun _ v16 => n - (intOf v16).toNat)
                case atStart => exact ⟨0, by omega, rfl, rfl⟩
                case round =>
                  obtain ⟨j, hj, rfl, rfl⟩ := hrel
                  by_cases hlt : j < n
                  · have ce := HELL.out j hlt
                    go_wp2
                    go_round
                    case rel => exact ⟨j + 1, by omega, rfl, by go_num⟩
                    case measure => simp [intOf]; omega
                  · obtain rfl : n = j := by omega
                    clear hlt hj
                    go_wp2
                    have ha := (answer_eq HT.out HG.out HBB.out (T : Int)).trans (congrArg some (if_pos (.inr (Int.le_refl _))))
                    have hg := (global_eq HT.out HG.out HBB.out (G : Int)).trans (congrArg some (if_pos (.inr (Int.le_refl _))))
                    have he := (entry_eq HT.out HG.out HBB.out (B : Int)).trans (congrArg some (if_pos (.inr (Int.le_refl _))))
                    have hs := (start_eq HT.out HG.out HBB.out (-1 : Int)).trans (congrArg some (if_pos (.inl (by decide))))
                    have HA := Lib.hid ha
                    have HG' := Lib.hid hg
                    have HE := Lib.hid he
                    have HS' := Lib.hid hs
                    clear ha hg he hs c9 c10
                    go_region_held3 (fun w' => w'.cell? ⟨w1.heap.size, 0, none⟩ = some (.int .i64 T) ∧ w'.cell? ⟨w1.heap.size, 1, none⟩ = some (.int .i64 G) ∧ w'.cell? ⟨w1.heap.size, 2, none⟩ = some (.int .i64 B) ∧ Hid (St w w' w1.heap.size w2.heap.size (w5.heap.size + 1) w5.heap.size T G B n (Hand.pB (3 + T + G) (3 + T + G + B) B)))
                      (first | exact hS | exact ⟨c0, c1, c2, Lib.hid HS5'.out.drew⟩ | go_keep)
                      (first
                        | (go_at_call 10; (with_reducible refine (withS (by assumption) (layout_Layout_Answer.calls T G B T _ _ HA.out)).mono ?_); rintro e w' ⟨rfl, hS⟩)
                        | (go_at_call 11; (with_reducible refine (withS (by assumption) (layout_Layout_Global.calls T G B G _ _ HG'.out)).mono ?_); rintro e w' ⟨rfl, hS⟩)
                        | (go_at_call 8; (with_reducible refine (withS (by assumption) (layout_Layout_Blocks.calls T G B B _ rfl)).mono ?_); rintro e w' ⟨rfl, hS⟩)
                        | (go_at_call 12; (with_reducible refine (withS (by assumption) (layout_Layout_Entry.calls T G B B _ _ HE.out)).mono ?_); rintro e w' ⟨rfl, hS⟩)
                        | (go_at_call 13; (with_reducible refine (withS (by assumption) (layout_Layout_Start.calls T G B (-1) _ _ HS'.out)).mono ?_); rintro e w' ⟨rfl, hS⟩)
                        | (go_at_call 7; (with_reducible refine (withS (by assumption) (demesnelaw06_wakes.calls 1 _ _ HWk.out)).mono ?_); rintro e w' ⟨rfl, hS⟩))
                    go_wp2
                    go_ret
                    exact ⟨rfl, hS.2.2.2.out.bel⟩
  · have e6 : decide ((B : Int) < 64) = true := decide_eq_true (by omega)
    have e7 : decide (32 < w0 - (n : Int)) = false := decide_eq_false (by omega)
    clear h64 hlast
    go_wp2_with fail
    have s8 : St w ((w5.alloc (.cells (Hand.seenC n fun _ => false) 3)).alloc (.cells #[.slice (some ⟨w5.heap.size, 0, none⟩) n n] 29)) w1.heap.size w2.heap.size (w5.heap.size + 1) w5.heap.size T G B n (Hand.pA 0) := by
      have l7 := lt_of_heap HS5.out.h7
      have l9 := lt_of_heap HS5.out.h9
      have lw := HS5.out.bel.size
      refine ⟨?_, ?_, ?_, ?_, ?_⟩
      · exact (heap_alloc_old _ _ (by simp; omega)).trans ((heap_alloc_old _ _ l7).trans HS5.out.h7)
      · exact (heap_alloc_old _ _ (by simp; omega)).trans ((heap_alloc_old _ _ l9).trans HS5.out.h9)
      · exact heap_alloc2_new _ _ _
      · rw [Hand.pA_zero]; exact heap_alloc2_old _ _ _
      · exact (HS5.out.bel.alloc lw _).alloc (by simp; omega) _
    have HS8 := Lib.hid s8
    have L7 := Lib.hid (Nat.ne_of_lt (lt_of_heap HS5.out.h7))
    have L9 := Lib.hid (Nat.ne_of_lt (lt_of_heap HS5.out.h9))
    have L10 := Lib.hid (show w5.heap.size + 1 ≠ w5.heap.size by omega)
    have LW := Lib.hid HS5.out.bel.size
    clear s8 c0 c1 c2 c9
    refine (Hand.mark_int n 0 1 _ _ (by rfl) (by rfl) (Hand.pA 0) _ _ _ _ L9.out L10.out HS8.out.h9 HS8.out.h10 HS8.out.hs hn4 (by have := HNN.out; omega) (fun i h _ => by unfold Hand.pA; exact decide_eq_false (by omega))).mono ?_
    rintro e w6 ⟨rfl, hw⟩
    have HS9 : Hid (St w w6 w1.heap.size w2.heap.size (w5.heap.size + 1) w5.heap.size T G B n (Hand.pA (0 + 1))) := by
      have s := HS8.out.mark 0 1 L7.out L9.out L10.out LW.out
      rw [hw, Hand.pA_add] at s
      exact Lib.hid s
    clear hw
    go_wp2_with fail
    refine (Hand.mark_int n 1 1 _ _ (by rfl) (by rfl) (Hand.pA 1) _ _ _ _ L9.out L10.out HS9.out.h9 HS9.out.h10 HS9.out.hs hn4 (by have := HNN.out; omega) (fun i h _ => by unfold Hand.pA; exact decide_eq_false (by omega))).mono ?_
    rintro e w7 ⟨rfl, hw⟩
    have HSA : Hid (St w w7 w1.heap.size w2.heap.size (w5.heap.size + 1) w5.heap.size T G B n (Hand.pA (1 + 1))) := by
      have s := HS9.out.mark 1 1 L7.out L9.out L10.out LW.out
      rw [hw, Hand.pA_add] at s
      exact Lib.hid s
    clear hw
    go_wp2_with fail
    refine (Hand.mark_int n 2 1 _ _ (by rfl) (by rfl) (Hand.pA 2) _ _ _ _ L9.out L10.out HSA.out.h9 HSA.out.h10 HSA.out.hs hn4 (by have := HNN.out; omega) (fun i h _ => by unfold Hand.pA; exact decide_eq_false (by omega))).mono ?_
    rintro e w8 ⟨rfl, hw⟩
    have HSB : Hid (St w w8 w1.heap.size w2.heap.size (w5.heap.size + 1) w5.heap.size T G B n (Hand.pA (2 + 1))) := by
      have s := HSA.out.mark 2 1 L7.out L9.out L10.out LW.out
      rw [hw, Hand.pA_add] at s
      exact Lib.hid s
    clear hw
    go_wp2
    go_loopw [12, 13] (fun v12 v13 wr => ∃ (j : Nat), j ≤ T ∧ v12 = .bool true ∧ v13 = .int .i64 j ∧ Hid (St w wr w1.heap.size w2.heap.size (w5.heap.size + 1) w5.heap.size T G B n (Hand.pA (3 + j)))) (fun _ v13 _ => T - (intOf v13).toNat)
    case atStart => exact ⟨0, by omega, rfl, rfl, HSB⟩
    case round =>
      obtain ⟨j, hj, rfl, rfl, HS⟩ := hrel
      by_cases hlt : j < T
      · obtain ⟨c0, c1, c2, c9, c10⟩ := HS.out.c7
        have ha := (answer_eq HT.out HG.out HBB.out (j : Int)).trans (congrArg some (if_neg (show ¬ ((j : Int) < 0 ∨ (T : Int) ≤ (j : Int)) by omega)))
        have HA := Lib.hid ha
        clear ha
        go_wp2_with fail
        clear c0 c1 c2 c9 c10
        refine (layout_Layout_Answer.calls T G B j _ _ HA.out).mono ?_
        rintro e wa ⟨rfl, hb⟩
        have HSa := Lib.hid (HS.out.below hb)
        clear hb
        go_wp2_with fail
        refine (Hand.mark_int n (3 + j) 1 _ _ (by omega) (by rfl) (Hand.pA (3 + j)) _ _ _ _ L9.out L10.out HSa.out.h9 HSa.out.h10 HSa.out.hs hn4 (by have := HNN.out; omega) (fun i h _ => by unfold Hand.pA; exact decide_eq_false (by omega))).mono ?_
        rintro e wb ⟨rfl, hw⟩
        have HSb : Hid (St w wb w1.heap.size w2.heap.size (w5.heap.size + 1) w5.heap.size T G B n (Hand.pA (3 + j + 1))) := by
          have s := HSa.out.mark (3 + j) 1 L7.out L9.out L10.out LW.out
          rw [hw, Hand.pA_add] at s
          exact Lib.hid s
        clear hw
        go_wp2
        go_roundw
        case rel => exact ⟨j + 1, by omega, rfl, by go_num, HSb⟩
        case measure => simp [intOf]; omega
      · obtain rfl : T = j := by omega
        clear hlt hj
        go_wp2
        go_loopw [12, 14] (fun v12 v14 wr => ∃ (j : Nat), j ≤ G ∧ v12 = .bool true ∧ v14 = .int .i64 j ∧ Hid (St w wr w1.heap.size w2.heap.size (w5.heap.size + 1) w5.heap.size T G B n (Hand.pA (3 + T + j)))) (fun _ v14 _ => G - (intOf v14).toNat)
        case atStart => exact ⟨0, by omega, rfl, rfl, HS⟩
        case round =>
          obtain ⟨j, hj, rfl, rfl, HS2⟩ := hrel
          clear HS
          by_cases hlt : j < G
          · obtain ⟨c0, c1, c2, c9, c10⟩ := HS2.out.c7
            have ha := (global_eq HT.out HG.out HBB.out (j : Int)).trans (congrArg some (if_neg (show ¬ ((j : Int) < 0 ∨ (G : Int) ≤ (j : Int)) by omega)))
            have HA := Lib.hid ha
            clear ha
            go_wp2_with fail
            clear c0 c1 c2 c9 c10
            refine (layout_Layout_Global.calls T G B j _ _ HA.out).mono ?_
            rintro e wa ⟨rfl, hb⟩
            have HSa := Lib.hid (HS2.out.below hb)
            clear hb
            go_wp2_with fail
            refine (Hand.mark_int n (3 + T + j) 1 _ _ (by omega) (by rfl) (Hand.pA (3 + T + j)) _ _ _ _ L9.out L10.out HSa.out.h9 HSa.out.h10 HSa.out.hs hn4 (by have := HNN.out; omega) (fun i h _ => by unfold Hand.pA; exact decide_eq_false (by omega))).mono ?_
            rintro e wb ⟨rfl, hw⟩
            have HSb : Hid (St w wb w1.heap.size w2.heap.size (w5.heap.size + 1) w5.heap.size T G B n (Hand.pA (3 + T + j + 1))) := by
              have s := HSa.out.mark (3 + T + j) 1 L7.out L9.out L10.out LW.out
              rw [hw, Hand.pA_add] at s
              exact Lib.hid s
            clear hw
            go_wp2
            go_roundw
            case rel => exact ⟨j + 1, by omega, rfl, by go_num, HSb⟩
            case measure => simp [intOf]; omega
          · obtain rfl : G = j := by omega
            have HS3 : Hid (St w wr w1.heap.size w2.heap.size (w5.heap.size + 1) w5.heap.size T G B n (Hand.pB (3 + T + G) (3 + T + G + B) 0)) := Lib.hid (by rw [Hand.pB_zero]; exact HS2.out)
            clear hlt hj HS2
            go_wp2
            go_loopw [12, 15] (fun v12 v15 wr => ∃ (j : Nat), j ≤ B ∧ v12 = .bool true ∧ v15 = .int .i64 j ∧ Hid (St w wr w1.heap.size w2.heap.size (w5.heap.size + 1) w5.heap.size T G B n (Hand.pB (3 + T + G) (3 + T + G + B) j))) (fun _ v15 _ => B - (intOf v15).toNat)
            case atStart => exact ⟨0, by omega, rfl, rfl, HS3⟩
            case round =>
              obtain ⟨j, hj, rfl, rfl, HS4⟩ := hrel
              clear HS3
              obtain ⟨c0, c1, c2, c9, c10⟩ := HS4.out.c7
              go_wp2_with fail
              clear c0 c1 c2 c9 c10
              refine (layout_Layout_Blocks.calls T G B B _ rfl).mono ?_
              rintro e wq ⟨rfl, hb⟩
              have HS5' := Lib.hid (HS4.out.below hb)
              clear hb
              by_cases hlt : j < B
              · obtain ⟨c0, c1, c2, c9, c10⟩ := HS5'.out.c7
                have ha := (entry_eq HT.out HG.out HBB.out (j : Int)).trans (congrArg some (if_neg (show ¬ ((j : Int) < 0 ∨ (B : Int) ≤ (j : Int)) by omega)))
                have hs := (start_eq HT.out HG.out HBB.out (j : Int)).trans (congrArg some (if_neg (show ¬ ((j : Int) < 0 ∨ (B : Int) ≤ (j : Int)) by omega)))
                have HA := Lib.hid ha
                have HSt := Lib.hid hs
                clear ha hs
                go_wp2_with fail
                clear c0 c1 c2 c9 c10
                refine (layout_Layout_Entry.calls T G B j _ _ HA.out).mono ?_
                rintro e wa ⟨rfl, hb⟩
                have HSa := Lib.hid (HS5'.out.below hb)
                clear hb
                go_wp2_with fail
                refine (Hand.mark_int n (3 + T + G + j) 1 _ _ (by omega) (by rfl) (Hand.pB (3 + T + G) (3 + T + G + B) j) _ _ _ _ L9.out L10.out HSa.out.h9 HSa.out.h10 HSa.out.hs hn4 (by have := HNN.out; omega) (fun i h h' => Hand.pB_no1i _ _ _ _ (by omega) h h')).mono ?_
                rintro e wb ⟨rfl, hw⟩
                have HSb : Hid (St w wb w1.heap.size w2.heap.size (w5.heap.size + 1) w5.heap.size T G B n (Hand.addR (Hand.pB (3 + T + G) (3 + T + G + B) j) (3 + T + G + j) 1)) := by
                  have s := HSa.out.mark (3 + T + G + j) 1 L7.out L9.out L10.out LW.out
                  rw [hw] at s
                  exact Lib.hid s
                clear hw
                obtain ⟨c0, c1, c2, c9, c10⟩ := HSb.out.c7
                go_wp2_with fail
                clear c0 c1 c2 c9 c10
                refine (layout_Layout_Start.calls T G B j _ _ HSt.out).mono ?_
                rintro e wc ⟨rfl, hb⟩
                have HSc := Lib.hid (HSb.out.below hb)
                clear hb
                go_wp2_with fail
                refine (Hand.mark_int n (3 + T + G + B + 32 * j) 32 _ _ (by omega) (by rfl) (Hand.addR (Hand.pB (3 + T + G) (3 + T + G + B) j) (3 + T + G + j) 1) _ _ _ _ L9.out L10.out HSc.out.h9 HSc.out.h10 HSc.out.hs hn4 (by have := HNN.out; omega) (fun i h h' => Hand.pB_no2 _ _ _ _ (by omega) h)).mono ?_
                rintro e wd ⟨rfl, hw⟩
                have HSd : Hid (St w wd w1.heap.size w2.heap.size (w5.heap.size + 1) w5.heap.size T G B n (Hand.pB (3 + T + G) (3 + T + G + B) (j + 1))) := by
                  have s := HSc.out.mark (3 + T + G + B + 32 * j) 32 L7.out L9.out L10.out LW.out
                  rw [hw, Hand.pB_add _ _ _ (by omega)] at s
                  exact Lib.hid s
                clear hw
                go_wp2
                go_roundw
                case rel => exact ⟨j + 1, by omega, rfl, by go_num, HSd⟩
                case measure => simp [intOf]; omega
              · obtain rfl : B = j := by omega
                clear hlt hj HS4
                go_wp2
                obtain ⟨c0, c1, c2, c9, c10⟩ := HS5'.out.c7
                have HELL : Hid (∀ i, i < n → wq.cell? ⟨w5.heap.size, i, none⟩ = some (.int .i64 1)) := Lib.hid (fun i hi => (cell_of_row _ _ _ _ _ _ HS5'.out.hs).trans (Hand.seen_all n (3 + T + G) (3 + T + G + B) B i rfl (by have := HNN.out; omega) hi))
                go_loop [12, 16] (fun v12 v16 => ∃ (j : Nat), j ≤ n ∧ v12 = .bool true ∧ v16 = .int .i64 j) (fun _ v16 => n - (intOf v16).toNat)
                case atStart => exact ⟨0, by omega, rfl, rfl⟩
                case round =>
                  obtain ⟨j, hj, rfl, rfl⟩ := hrel
                  by_cases hlt : j < n
                  · have ce := HELL.out j hlt
                    go_wp2
                    go_round
                    case rel => exact ⟨j + 1, by omega, rfl, by go_num⟩
                    case measure => simp [intOf]; omega
                  · obtain rfl : n = j := by omega
                    clear hlt hj
                    go_wp2
                    have ha := (answer_eq HT.out HG.out HBB.out (T : Int)).trans (congrArg some (if_pos (.inr (Int.le_refl _))))
                    have hg := (global_eq HT.out HG.out HBB.out (G : Int)).trans (congrArg some (if_pos (.inr (Int.le_refl _))))
                    have he := (entry_eq HT.out HG.out HBB.out (B : Int)).trans (congrArg some (if_pos (.inr (Int.le_refl _))))
                    have hs := (start_eq HT.out HG.out HBB.out (-1 : Int)).trans (congrArg some (if_pos (.inl (by decide))))
                    have HA := Lib.hid ha
                    have HG' := Lib.hid hg
                    have HE := Lib.hid he
                    have HS' := Lib.hid hs
                    clear ha hg he hs c9 c10
                    go_region_held3 (fun w' => w'.cell? ⟨w1.heap.size, 0, none⟩ = some (.int .i64 T) ∧ w'.cell? ⟨w1.heap.size, 1, none⟩ = some (.int .i64 G) ∧ w'.cell? ⟨w1.heap.size, 2, none⟩ = some (.int .i64 B) ∧ Hid (St w w' w1.heap.size w2.heap.size (w5.heap.size + 1) w5.heap.size T G B n (Hand.pB (3 + T + G) (3 + T + G + B) B)))
                      (first | exact hS | exact ⟨c0, c1, c2, Lib.hid HS5'.out.drew⟩ | go_keep)
                      (first
                        | (go_at_call 10; (with_reducible refine (withS (by assumption) (layout_Layout_Answer.calls T G B T _ _ HA.out)).mono ?_); rintro e w' ⟨rfl, hS⟩)
                        | (go_at_call 11; (with_reducible refine (withS (by assumption) (layout_Layout_Global.calls T G B G _ _ HG'.out)).mono ?_); rintro e w' ⟨rfl, hS⟩)
                        | (go_at_call 8; (with_reducible refine (withS (by assumption) (layout_Layout_Blocks.calls T G B B _ rfl)).mono ?_); rintro e w' ⟨rfl, hS⟩)
                        | (go_at_call 12; (with_reducible refine (withS (by assumption) (layout_Layout_Entry.calls T G B B _ _ HE.out)).mono ?_); rintro e w' ⟨rfl, hS⟩)
                        | (go_at_call 13; (with_reducible refine (withS (by assumption) (layout_Layout_Start.calls T G B (-1) _ _ HS'.out)).mono ?_); rintro e w' ⟨rfl, hS⟩)
                        | (go_at_call 7; (with_reducible refine (withS (by assumption) (demesnelaw06_wakes.calls 1 _ _ HWk.out)).mono ?_); rintro e w' ⟨rfl, hS⟩))
                    go_wp2
                    go_ret
                    exact ⟨rfl, hS.2.2.2.out.bel⟩
def okP (k : Nat) (a0 a1 a2 : Int) (r : Bool) : Prop := k = 0 ∧ r = true ∧ (Lit.int .i64 a0).wf = true ∧ (Lit.int .i64 a1).wf = true ∧ (Lit.int .i64 a2).wf = true
theorem LayoutParts_pure (a0 a1 a2 : Int) (w0 : (Lit.int .i64 a0).wf = true) (w1 : (Lit.int .i64 a1).wf = true) (w2 : (Lit.int .i64 a2).wf = true) : ∃ k, okP k a0 a1 a2 true := ⟨0, rfl, rfl, w0, w1, w2⟩
theorem LayoutParts_calls (k : Nat) (a0 a1 a2 : Int) (r : Bool) (w : World) (h : okP k a0 a1 a2 r) :
    Calls Try.prog 3 #[.int .i64 a0, .int .i64 a1, .int .i64 a2] w fun e w' => e = .returned (.bool r) ∧ Below w.heap.size w w' := by
  obtain ⟨_, rfl, _, _, _⟩ := h
  have hN := new_eq a0 a1 a2
  rcases newp_cases2 a0 a1 a2 with ⟨e, he, h0⟩ | ⟨b, he, hw1, hw2, ht1, ht2, hg1, hg2, hb1, hb2, hl, hf⟩
  · rw [he] at hN
    exact parts_err a0 a1 a2 e w hN h0
  · rw [he] at hN
    obtain ⟨T, rfl⟩ := Int.eq_ofNat_of_zero_le (show 0 ≤ a1 by omega)
    obtain ⟨G, rfl⟩ := Int.eq_ofNat_of_zero_le (show 0 ≤ a2 by omega)
    obtain ⟨B, rfl⟩ := Int.eq_ofNat_of_zero_le (show 0 ≤ b by omega)
    exact parts_main a0 T G B (3 + T + G + 33 * B) w hN (by omega) (by omega) (by omega) (by omega) (by omega) (by omega) (by omega) (by omega) (by omega) rfl
end Go.Proofs.Ytccncgelngacaaa.PLayoutParts
