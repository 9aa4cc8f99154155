/- The pure law of LayoutTells: for any four numbers the statement's function, as the print tells it, answers true. No condition. -/
import Derived.Test.YtccncgelngacaaaPLayoutTellsx4
import Derived.OpenShut
namespace Go.Proofs.Ytccncgelngacaaa.Pure
open Go.RowKit Go.Proofs.Ytccncgelngacaaa.PLayoutTells Go.Proofs.YtccncgelngacaaaW.PrintWords Go.Proofs.YtccncgelngacaaaW.PrintLast
set_option linter.unusedVariables false
theorem wk (k : Nat) (h : 1 ≤ k) : demesnelaw06_wakes.f k = some true :=
  at_rounds demesnelaw06_wakes.mono h (by decide +kernel)
theorem wr (x : Int) (h0 : -1000000 ≤ x) (h1 : x ≤ 1000000) : wrap64 x = x := by unfold wrap64; omega
theorem tdiv33 (x : Int) (h : -1000000 ≤ x) (_h1 : x ≤ 1000000) : (x < 33 → Int.tdiv x 33 < 1 ∧ -1000000 ≤ Int.tdiv x 33) ∧ (33 ≤ x → Int.tdiv x 33 = x / 33) := by
  refine ⟨fun hx => ?_, fun hx => Int.tdiv_eq_ediv_of_nonneg (by omega)⟩
  by_cases h0 : 0 ≤ x
  · rw [Int.tdiv_eq_ediv_of_nonneg h0]; omega
  · obtain ⟨n, rfl⟩ : ∃ n : Int, x = -n := ⟨-x, by omega⟩
    rw [Int.neg_tdiv, Int.tdiv_eq_ediv_of_nonneg (by omega)]; omega
def nb (w t g : Int) : Int := if w - 3 - t - g < 33 then 0 else if (w - 3 - t - g) / 33 ≤ 64 then (w - 3 - t - g) / 33 else 64
def newp (w t g : Int) : Int × Int × Int × Int :=
  if w < 1 ∨ w > 4096 ∨ t < 1 ∨ t > 64 ∨ g < 0 ∨ g > 8 then (0, 0, 0, 2) else if nb w t g = 0 then (0, 0, 0, 4) else (t, g, nb w t g, 0)
theorem nb_bd (w t g : Int) : 0 ≤ nb w t g ∧ nb w t g ≤ 64 ∧ (nb w t g = 64 ∨ w < 3 + t + g + 33 * (nb w t g + 1)) ∧ (nb w t g = 0 ∨ 3 + t + g + 33 * nb w t g ≤ w) := by
  unfold nb
  repeat' split
  all_goals omega
theorem new_early (k : Nat) (w t g : Int) : layout_New.j0 (k + 1) w t g true = some (0, 0, 0, 2) := by
  simp only [layout_New.j0]; rfl
theorem new_eq (w t g : Int) : layout_New.f 1 w t g = some (newp w t g) := by
  unfold layout_New.f newp
  by_cases h1 : w < 1
  · rw [if_pos h1, new_early 0, if_pos (by omega)]
  by_cases h2 : w > 4096
  · rw [if_neg h1, if_pos h2, new_early 0, if_pos (by omega)]
  by_cases h3 : t < 1
  · rw [if_neg h1, if_neg h2, if_pos h3, new_early 0, if_pos (by omega)]
  by_cases h4 : t > 64
  · rw [if_neg h1, if_neg h2, if_neg h3, if_pos h4, new_early 0, if_pos (by omega)]
  by_cases h5 : g < 0
  · rw [if_neg h1, if_neg h2, if_neg h3, if_neg h4, if_pos h5, new_early 0, if_pos (by omega)]
  rw [if_neg h1, if_neg h2, if_neg h3, if_neg h4, if_neg h5]
  by_cases h6 : g > 8
  · rw [decide_eq_true h6, new_early 0, if_pos (by omega)]
  rw [decide_eq_false h6, if_neg (by omega)]
  simp only [layout_New.j0]
  have e1 := wr (w - 3) (by omega) (by omega)
  have e2 := wr (w - 3 - t) (by omega) (by omega)
  have e3 := wr (w - 3 - t - g) (by omega) (by omega)
  rw [e1, e2, e3, if_neg (by decide)]
  obtain ⟨d1, d2⟩ := tdiv33 (w - 3 - t - g) (by omega) (by omega)
  unfold nb
  by_cases c : w - 3 - t - g < 33
  · obtain ⟨q1, q2⟩ := d1 c
    rw [if_pos c, if_pos rfl, wr _ q2 (by omega), if_pos (by unfold mn; split <;> omega)]
  · have q := d2 (by omega)
    rw [if_neg c, q, wr _ (by omega) (by omega)]
    have em : mn 64 ((w - 3 - t - g) / 33) = if (w - 3 - t - g) / 33 ≤ 64 then (w - 3 - t - g) / 33 else 64 := by
      unfold mn
      repeat' split
      all_goals omega
    rw [em]
    by_cases c2 : (w - 3 - t - g) / 33 ≤ 64
    · simp only [if_pos c2]
      rw [if_neg (by omega), if_neg (by omega)]
    · simp only [if_neg c2]
      rw [if_neg (by decide), if_neg (by decide)]
theorem rnew_early (k : Nat) (w t g : Int) : demesneref06_New.j0 (k + 1) w t g true = some (0, 0, 0, 2) := by
  simp only [demesneref06_New.j0]; rfl
theorem rloop (w t g b : Int) (hw : 1 ≤ w ∧ w ≤ 4096) (ht : 1 ≤ t ∧ t ≤ 64) (hg : 0 ≤ g ∧ g ≤ 8) (hb : 0 ≤ b ∧ b ≤ 64) (h1 : b = 64 ∨ w < 3 + t + g + 33 * (b + 1)) (h2 : b = 0 ∨ 3 + t + g + 33 * b ≤ w) (d : Nat) :
    ∀ (k : Nat) (i : Int), 0 ≤ i → i ≤ b → b - i = d → d < k → demesneref06_New.l0 k w t g i = some (if b = 0 then (0, 0, 0, 4) else (t, g, b, 0)) := by
  induction d with
  | zero =>
    intro k i hi hi' hd hk
    obtain ⟨k, rfl⟩ : ∃ m, k = m + 1 := ⟨k - 1, by omega⟩
    obtain rfl : i = b := by omega
    simp only [demesneref06_New.l0]
    rw [wr (3 + t) (by omega) (by omega), wr (3 + t + g) (by omega) (by omega), wr (i + 1) (by omega) (by omega), wr (33 * (i + 1)) (by omega) (by omega), wr (3 + t + g + 33 * (i + 1)) (by omega) (by omega)]
    have e : (if i = 0 then some ((0 : Int), (0 : Int), (0 : Int), (4 : Int)) else some (t, g, i, 0)) = some (if i = 0 then (0, 0, 0, 4) else (t, g, i, 0)) := by split <;> rfl
    by_cases c : i < 64
    · rw [if_pos c, if_neg (by omega), e]
    · rw [if_neg c, e]
  | succ d ih =>
    intro k i hi hi' hd hk
    obtain ⟨k, rfl⟩ : ∃ m, k = m + 1 := ⟨k - 1, by omega⟩
    have r := ih k (i + 1) (by omega) (by omega) (by omega) (by omega)
    simp only [demesneref06_New.l0]
    rw [wr (3 + t) (by omega) (by omega), wr (3 + t + g) (by omega) (by omega), wr (i + 1) (by omega) (by omega), wr (33 * (i + 1)) (by omega) (by omega), wr (3 + t + g + 33 * (i + 1)) (by omega) (by omega), if_pos (by omega), if_pos (by omega), r]
theorem rnew_eq (w t g : Int) : demesneref06_New.f 70 w t g = some (newp w t g) := by
  unfold demesneref06_New.f newp
  by_cases h1 : w < 1
  · rw [if_pos h1, rnew_early 69, if_pos (by omega)]
  by_cases h2 : w > 4096
  · rw [if_neg h1, if_pos h2, rnew_early 69, if_pos (by omega)]
  by_cases h3 : t < 1
  · rw [if_neg h1, if_neg h2, if_pos h3, rnew_early 69, if_pos (by omega)]
  by_cases h4 : t > 64
  · rw [if_neg h1, if_neg h2, if_neg h3, if_pos h4, rnew_early 69, if_pos (by omega)]
  by_cases h5 : g < 0
  · rw [if_neg h1, if_neg h2, if_neg h3, if_neg h4, if_pos h5, rnew_early 69, if_pos (by omega)]
  rw [if_neg h1, if_neg h2, if_neg h3, if_neg h4, if_neg h5]
  by_cases h6 : g > 8
  · rw [decide_eq_true h6, rnew_early 69, if_pos (by omega)]
  rw [decide_eq_false h6, if_neg (by omega)]
  simp only [demesneref06_New.j0]
  obtain ⟨n1, n2, n3, n4⟩ := nb_bd w t g
  rw [if_neg (by decide)]
  exact rloop w t g (nb w t g) (by omega) (by omega) (by omega) (by omega) n3 n4 (nb w t g).toNat 69 0 (by omega) (by omega) (by omega) (by omega)
theorem newp_cases (w t g : Int) : (∃ e, newp w t g = (0, 0, 0, e) ∧ ¬ e = 0) ∨ ∃ b, newp w t g = (t, g, b, 0) ∧ 1 ≤ t ∧ t ≤ 64 ∧ 0 ≤ g ∧ g ≤ 8 ∧ 1 ≤ b ∧ b ≤ 64 := by
  unfold newp
  by_cases c : w < 1 ∨ w > 4096 ∨ t < 1 ∨ t > 64 ∨ g < 0 ∨ g > 8
  · rw [if_pos c]; exact .inl ⟨2, rfl, by decide⟩
  rw [if_neg c]
  by_cases d : nb w t g = 0
  · rw [if_pos d]; exact .inl ⟨4, rfl, by decide⟩
  · rw [if_neg d]
    obtain ⟨n1, n2, n3, n4⟩ := nb_bd w t g
    exact .inr ⟨nb w t g, rfl, by omega, by omega, by omega, by omega, by omega, by omega⟩
theorem words_eq {t g b : Int} (ht : 1 ≤ t ∧ t ≤ 64) (hg : 0 ≤ g ∧ g ≤ 8) (hb : 1 ≤ b ∧ b ≤ 64) : layout_Layout_Words.f t g b = some (3 + t + g + 33 * b) := by
  unfold layout_Layout_Words.f layout_Layout_table.f
  rw [if_neg (by simp; omega), Option.bind_some, wr (3 + t) (by omega) (by omega), wr (3 + t + g) (by omega) (by omega), wr (b * 33) (by omega) (by omega), wr _ (by omega) (by omega)]
  congr 1; omega
theorem rwords_eq {t g b : Int} (ht : 1 ≤ t ∧ t ≤ 64) (hg : 0 ≤ g ∧ g ≤ 8) (hb : 1 ≤ b ∧ b ≤ 64) : demesneref06_Layout_Words.f t g b = some (3 + t + g + 33 * b) := by
  unfold demesneref06_Layout_Words.f
  rw [if_neg (by omega), wr (3 + t) (by omega) (by omega), wr (3 + t + g) (by omega) (by omega), wr (33 * b) (by omega) (by omega), wr _ (by omega) (by omega)]
theorem answer_eq {t g b : Int} (ht : 1 ≤ t ∧ t ≤ 64) (hg : 0 ≤ g ∧ g ≤ 8) (hb : 1 ≤ b ∧ b ≤ 64) (i : Int) : layout_Layout_Answer.f t g b i = some (if i < 0 ∨ t ≤ i then -1 else 3 + i) := by
  unfold layout_Layout_Answer.f
  by_cases c : i < 0 ∨ t ≤ i
  · rw [if_pos c, if_pos c]
  · rw [if_neg c, if_neg c, Int.mul_one, wr i (by omega) (by omega), wr _ (by omega) (by omega)]
theorem ranswer_eq {t g b : Int} (ht : 1 ≤ t ∧ t ≤ 64) (hg : 0 ≤ g ∧ g ≤ 8) (hb : 1 ≤ b ∧ b ≤ 64) (i : Int) : demesneref06_Layout_Answer.f t g b i = some (if i < 0 ∨ t ≤ i then -1 else 3 + i) := by
  unfold demesneref06_Layout_Answer.f
  by_cases c0 : i < 0
  · rw [if_pos c0, if_pos (.inl c0)]
  by_cases c1 : i ≥ t
  · rw [if_neg c0, if_pos c1, if_pos (.inr c1)]
  · rw [if_neg c0, if_neg c1, if_neg (by omega), wr _ (by omega) (by omega)]
theorem global_eq {t g b : Int} (ht : 1 ≤ t ∧ t ≤ 64) (hg : 0 ≤ g ∧ g ≤ 8) (hb : 1 ≤ b ∧ b ≤ 64) (i : Int) : layout_Layout_Global.f t g b i = some (if i < 0 ∨ g ≤ i then -1 else 3 + t + i) := by
  unfold layout_Layout_Global.f
  by_cases c : i < 0 ∨ g ≤ i
  · rw [if_pos c, if_pos c]
  · rw [if_neg c, if_neg c, Int.mul_one, wr i (by omega) (by omega), wr (3 + t) (by omega) (by omega), wr _ (by omega) (by omega)]
theorem rglobal_eq {t g b : Int} (ht : 1 ≤ t ∧ t ≤ 64) (hg : 0 ≤ g ∧ g ≤ 8) (hb : 1 ≤ b ∧ b ≤ 64) (i : Int) : demesneref06_Layout_Global.f t g b i = some (if i < 0 ∨ g ≤ i then -1 else 3 + t + i) := by
  unfold demesneref06_Layout_Global.f
  by_cases c0 : i < 0
  · rw [if_pos c0, if_pos (.inl c0)]
  by_cases c1 : i ≥ g
  · rw [if_neg c0, if_pos c1, if_pos (.inr c1)]
  · rw [if_neg c0, if_neg c1, if_neg (by omega), wr (3 + t) (by omega) (by omega), wr _ (by omega) (by omega)]
theorem entry_eq {t g b : Int} (ht : 1 ≤ t ∧ t ≤ 64) (hg : 0 ≤ g ∧ g ≤ 8) (hb : 1 ≤ b ∧ b ≤ 64) (i : Int) : layout_Layout_Entry.f t g b i = some (if i < 0 ∨ b ≤ i then -1 else 3 + t + g + i) := by
  unfold layout_Layout_Entry.f
  by_cases c : i < 0 ∨ b ≤ i
  · rw [if_pos c, if_pos c]
  · rw [if_neg c, if_neg c, Int.mul_one, wr i (by omega) (by omega), wr (3 + t) (by omega) (by omega), wr (3 + t + g) (by omega) (by omega), wr _ (by omega) (by omega)]
theorem rentry_eq {t g b : Int} (ht : 1 ≤ t ∧ t ≤ 64) (hg : 0 ≤ g ∧ g ≤ 8) (hb : 1 ≤ b ∧ b ≤ 64) (i : Int) : demesneref06_Layout_Entry.f t g b i = some (if i < 0 ∨ b ≤ i then -1 else 3 + t + g + i) := by
  unfold demesneref06_Layout_Entry.f
  by_cases c0 : i < 0
  · rw [if_pos c0, if_pos (.inl c0)]
  by_cases c1 : i ≥ b
  · rw [if_neg c0, if_pos c1, if_pos (.inr c1)]
  · rw [if_neg c0, if_neg c1, if_neg (by omega), wr (3 + t) (by omega) (by omega), wr (3 + t + g) (by omega) (by omega), wr _ (by omega) (by omega)]
theorem start_eq {t g b : Int} (ht : 1 ≤ t ∧ t ≤ 64) (hg : 0 ≤ g ∧ g ≤ 8) (hb : 1 ≤ b ∧ b ≤ 64) (i : Int) : layout_Layout_Start.f t g b i = some (if i < 0 ∨ b ≤ i then -1 else 3 + t + g + b + 32 * i) := by
  unfold layout_Layout_Start.f
  by_cases c : i < 0 ∨ b ≤ i
  · rw [if_pos c, if_pos c]
  · rw [if_neg c, if_neg c, wr (i * 32) (by omega) (by omega), wr (3 + t) (by omega) (by omega), wr (3 + t + g) (by omega) (by omega), wr (3 + t + g + b) (by omega) (by omega), wr _ (by omega) (by omega), Int.mul_comm i 32]
theorem rstart_eq {t g b : Int} (ht : 1 ≤ t ∧ t ≤ 64) (hg : 0 ≤ g ∧ g ≤ 8) (hb : 1 ≤ b ∧ b ≤ 64) (i : Int) : demesneref06_Layout_Start.f t g b i = some (if i < 0 ∨ b ≤ i then -1 else 3 + t + g + b + 32 * i) := by
  unfold demesneref06_Layout_Start.f
  by_cases c0 : i < 0
  · rw [if_pos c0, if_pos (.inl c0)]
  by_cases c1 : i ≥ b
  · rw [if_neg c0, if_pos c1, if_pos (.inr c1)]
  · rw [if_neg c0, if_neg c1, if_neg (by omega), wr (32 * i) (by omega) (by omega), wr (3 + t) (by omega) (by omega), wr (3 + t + g) (by omega) (by omega), wr (3 + t + g + b) (by omega) (by omega), wr _ (by omega) (by omega)]
theorem block_out {t g b : Int} (ht : 1 ≤ t ∧ t ≤ 64) (hg : 0 ≤ g ∧ g ≤ 8) (hb : 1 ≤ b ∧ b ≤ 64) (x : Int) (h : x < 3 + t + g + b ∨ 3 + t + g + 33 * b ≤ x) : layout_Layout_Block.f t g b x = some (0, 0, false) := by
  unfold layout_Layout_Block.f
  rw [words_eq ht hg hb]
  unfold layout_Layout_table.f
  rw [Option.bind_some, Option.bind_some, wr (3 + t) (by omega) (by omega), wr (3 + t + g) (by omega) (by omega), wr (3 + t + g + b) (by omega) (by omega)]
  by_cases c : x < 3 + t + g + b
  · rw [if_pos c]
  · rw [if_neg c, if_pos (by omega)]
theorem block_in {t g b : Int} (ht : 1 ≤ t ∧ t ≤ 64) (hg : 0 ≤ g ∧ g ≤ 8) (hb : 1 ≤ b ∧ b ≤ 64) (x : Int) (h : 3 + t + g + b ≤ x) (h' : x < 3 + t + g + 33 * b) : layout_Layout_Block.f t g b x = some ((x - (3 + t + g + b)) / 32, (x - (3 + t + g + b)) % 32, true) := by
  unfold layout_Layout_Block.f
  rw [words_eq ht hg hb]
  unfold layout_Layout_table.f
  rw [Option.bind_some, Option.bind_some, wr (3 + t) (by omega) (by omega), wr (3 + t + g) (by omega) (by omega), wr (3 + t + g + b) (by omega) (by omega), if_neg (by omega), if_neg (by omega), wr (x - (3 + t + g + b)) (by omega) (by omega), Int.tdiv_eq_ediv_of_nonneg (by omega), Int.tmod_eq_emod_of_nonneg (by omega), wr _ (by omega) (by omega)]
theorem loop_in {t g b : Int} (ht : 1 ≤ t ∧ t ≤ 64) (hg : 0 ≤ g ∧ g ≤ 8) (hb : 1 ≤ b ∧ b ≤ 64) (x : Int) (h : 3 + t + g + b ≤ x) (h' : x < 3 + t + g + 33 * b) (d : Nat) : ∀ (k : Nat) (i : Int), 0 ≤ i → i ≤ (x - (3 + t + g + b)) / 32 → (x - (3 + t + g + b)) / 32 - i = d → d + 2 ≤ k → demesnelaw06_LayoutTells.l0 k x ((x - (3 + t + g + b)) / 32) ((x - (3 + t + g + b)) % 32) true i t g b = some true := by
  induction d with
  | zero =>
    intro k i hi hi' hd hk
    obtain ⟨k, rfl⟩ : ∃ m, k = m + 1 := ⟨k - 1, by omega⟩
    simp only [demesnelaw06_LayoutTells.l0]
    rw [if_pos (by omega), rstart_eq ht hg hb i, Option.bind_some, if_neg (show ¬ (i < 0 ∨ b ≤ i) by omega), if_pos (by omega), wr _ (by omega) (by omega), if_pos (by omega), if_pos trivial, if_pos (by omega), wr _ (by omega) (by omega), if_pos (by omega), wk k (by omega)]
    rfl
  | succ d ih =>
    intro k i hi hi' hd hk
    obtain ⟨k, rfl⟩ : ∃ m, k = m + 1 := ⟨k - 1, by omega⟩
    have r := ih k (i + 1) (by omega) (by omega) (by omega) (by omega)
    simp only [demesnelaw06_LayoutTells.l0]
    rw [if_pos (by omega), rstart_eq ht hg hb i, Option.bind_some, if_neg (show ¬ (i < 0 ∨ b ≤ i) by omega), if_pos (by omega), wr _ (by omega) (by omega), if_neg (by omega), wr (i + 1) (by omega) (by omega)]
    exact r
theorem loop_out {t g b : Int} (ht : 1 ≤ t ∧ t ≤ 64) (hg : 0 ≤ g ∧ g ≤ 8) (hb : 1 ≤ b ∧ b ≤ 64) (x : Int) (h : x < 3 + t + g + b ∨ 3 + t + g + 33 * b ≤ x) (d : Nat) : ∀ (k : Nat) (i : Int), 0 ≤ i → i ≤ b → b - i = d → d + 2 ≤ k → demesnelaw06_LayoutTells.l0 k x 0 0 false i t g b = some true := by
  induction d with
  | zero =>
    intro k i hi hi' hd hk
    obtain ⟨k, rfl⟩ : ∃ m, k = m + 1 := ⟨k - 1, by omega⟩
    simp only [demesnelaw06_LayoutTells.l0]
    rw [if_neg (by omega), if_neg (by decide), if_pos trivial, if_pos trivial, wk k (by omega)]
    rfl
  | succ d ih =>
    intro k i hi hi' hd hk
    obtain ⟨k, rfl⟩ : ∃ m, k = m + 1 := ⟨k - 1, by omega⟩
    have r := ih k (i + 1) (by omega) (by omega) (by omega) (by omega)
    simp only [demesnelaw06_LayoutTells.l0]
    rw [if_pos (by omega), rstart_eq ht hg hb i, Option.bind_some, if_neg (show ¬ (i < 0 ∨ b ≤ i) by omega), wr (i + 1) (by omega) (by omega)]
    by_cases c : x ≥ 3 + t + g + b + 32 * i
    · rw [if_pos c, wr _ (by omega) (by omega), if_neg (by omega)]; exact r
    · rw [if_neg c]; exact r
theorem j1_eq {t g b : Int} (ht : 1 ≤ t ∧ t ≤ 64) (hg : 0 ≤ g ∧ g ≤ 8) (hb : 1 ≤ b ∧ b ≤ 64) (k : Nat) (x : Int) (hk : 68 ≤ k) : demesnelaw06_LayoutTells.j1 k x false t g b t g b = some true := by
  obtain ⟨k, rfl⟩ : ∃ m, k = m + 1 := ⟨k - 1, by omega⟩
  simp only [demesnelaw06_LayoutTells.j1]
  rw [if_neg (by decide)]
  by_cases c : x < 3 + t + g + b ∨ 3 + t + g + 33 * b ≤ x
  · rw [block_out ht hg hb x c, Option.bind_some]
    exact loop_out ht hg hb x c b.toNat k 0 (by omega) (by omega) (by omega) (by omega)
  · rw [block_in ht hg hb x (by omega) (by omega), Option.bind_some]
    exact loop_in ht hg hb x (by omega) (by omega) ((x - (3 + t + g + b)) / 32).toNat k 0 (by omega) (by omega) (by omega) (by omega)
theorem j0_eq {t g b : Int} (ht : 1 ≤ t ∧ t ≤ 64) (hg : 0 ≤ g ∧ g ≤ 8) (hb : 1 ≤ b ∧ b ≤ 64) (k : Nat) (x : Int) (hk : 69 ≤ k) : demesnelaw06_LayoutTells.j0 k x 0 false t g b t g b = some true := by
  obtain ⟨k, rfl⟩ : ∃ m, k = m + 1 := ⟨k - 1, by omega⟩
  simp only [demesnelaw06_LayoutTells.j0]
  rw [if_neg (by decide), if_pos trivial, answer_eq ht hg hb, ranswer_eq ht hg hb, Option.bind_some, Option.bind_some, if_pos rfl, global_eq ht hg hb, rglobal_eq ht hg hb, Option.bind_some, Option.bind_some, if_pos rfl, entry_eq ht hg hb, rentry_eq ht hg hb, Option.bind_some, Option.bind_some, if_pos rfl, start_eq ht hg hb, rstart_eq ht hg hb, Option.bind_some, Option.bind_some, bne_self_eq_false]
  exact j1_eq ht hg hb k x (by omega)
theorem block_zero (x : Int) : layout_Layout_Block.f 0 0 0 x = some (0, 0, false) := by
  have e1 : layout_Layout_table.f 0 0 0 = some 3 := by decide +kernel
  have e2 : layout_Layout_Words.f 0 0 0 = some 0 := by decide +kernel
  have e3 : wrap64 (3 + 0) = 3 := by decide +kernel
  unfold layout_Layout_Block.f
  rw [e1, e2, Option.bind_some, Option.bind_some, e3]
  by_cases c : x < 3
  · rw [if_pos c]
  · rw [if_neg c, if_pos (by omega)]
theorem LayoutTells : demesnelaw06_LayoutTells.Pure := by
  intro w t g x _ _ _ _
  refine ⟨70, ?_⟩
  unfold demesnelaw06_LayoutTells.f
  rw [at_rounds (layout_New.mono w t g) (show 1 ≤ 70 by omega) (new_eq w t g), Option.bind_some, rnew_eq, Option.bind_some]
  unfold layout_Layout_Threads.f layout_Layout_Globals.f layout_Layout_Blocks.f
  simp only [Option.bind_some, if_true]
  rcases newp_cases w t g with ⟨e, he, h0⟩ | ⟨b, he, ht1, ht2, hg1, hg2, hb1, hb2⟩
  · rw [he]
    have e2 : layout_Layout_Words.f 0 0 0 = some 0 := by decide +kernel
    have e3 : demesneref06_Layout_Words.f 0 0 0 = some 0 := by decide +kernel
    simp only [e2, e3, Option.bind_some, bne_self_eq_false]
    simp only [demesnelaw06_LayoutTells.j0]
    rw [if_neg (by decide), if_neg h0, block_zero, Option.bind_some, if_pos (by decide), if_neg (by decide), wk 69 (by omega)]
    rfl
  · rw [he]
    have ht : 1 ≤ t ∧ t ≤ 64 := ⟨ht1, ht2⟩
    have hg : 0 ≤ g ∧ g ≤ 8 := ⟨hg1, hg2⟩
    have hb : 1 ≤ b ∧ b ≤ 64 := ⟨hb1, hb2⟩
    simp only [words_eq ht hg hb, rwords_eq ht hg hb, Option.bind_some, bne_self_eq_false]
    exact j0_eq ht hg hb 70 x (by omega)
end Go.Proofs.Ytccncgelngacaaa.Pure
