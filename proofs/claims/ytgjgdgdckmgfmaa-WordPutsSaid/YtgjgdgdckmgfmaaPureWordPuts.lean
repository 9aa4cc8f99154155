/- The pure law of WordPuts: for any header the statement's function, as the print tells it, answers true. No condition. -/
import Derived.Test.YtgjgdgdckmgfmaaPWordPutsx2
import Derived.Test.YtgjgdgdckmgfmaaPlain
import Derived.OpenShut
namespace Go.Proofs.Ytgjgdgdckmgfmaa.PureWordPuts
open Go.RowKit Go.Proofs.Ytgjgdgdckmgfmaa Go.Proofs.Ytgjgdgdckmgfmaa.PWordPuts Go.Proofs.YtgjgdgdckmgfmaaW.PrintWords Go.Proofs.YtgjgdgdckmgfmaaW.PrintLast
theorem wk : demesnelaw01_wakes.f = some true := by
  unfold demesnelaw01_wakes.f word_Put.f word_Take.f word_Head_Live.f
  rw [Hand.put_wake1, Hand.put_wake2, Option.bind_some, Option.bind_some, Hand.takep_wake, Option.bind_some]
  rfl
theorem rj0 (k : Nat) (a0 a1 : Int) (a2 a3 : Bool) (a4 a5 a6 : Int) : demesneref01_May.j0 (k + 1) true a0 a1 a2 a3 a4 a5 a6 = some false := by
  simp only [demesneref01_May.j0]; rfl
theorem rmay (a0 a1 : Int) (a2 a3 : Bool) (a4 a5 a6 : Int) (h5 : 0 ≤ a5) (h0 : 0 ≤ a0) : demesneref01_May.f 1 a0 a1 a2 a3 a4 a5 a6 = some (Hand.mayp a0 a1 a2 a3 a4 a5 a6) := by
  unfold demesneref01_May.f Hand.mayp
  by_cases c0 : a0 > 3
  · rw [if_pos c0, rj0 0, if_pos (Or.inl c0)]
  rw [if_neg c0]
  by_cases c1 : a1 > 1
  · rw [if_pos c1, rj0 0, if_pos (Or.inr (Or.inl c1))]
  rw [if_neg c1]
  by_cases c4 : a4 > 63
  · rw [if_pos c4, rj0 0, if_pos (Or.inr (Or.inr (Or.inl (by omega))))]
  rw [if_neg c4]
  by_cases c6 : a6 > 95
  · rw [if_pos c6, rj0 0, if_pos (Or.inr (Or.inr (Or.inr (Or.inl c6))))]
  rw [if_neg c6]
  by_cases c5 : a5 > a6
  · rw [decide_eq_true c5, rj0 0, if_pos (Or.inr (Or.inr (Or.inr (Or.inr c5))))]
  rw [decide_eq_false c5, if_neg (by omega)]
  simp only [demesneref01_May.j0]
  rw [if_neg (by decide)]
  by_cases e : a0 < 2
  · rw [if_pos e, if_neg (show ¬ a0 = 2 by omega), if_neg (show ¬ a0 = 3 by omega)]
    by_cases f1 : a1 = 0
    · rw [if_pos f1, beq_iff_eq.mpr f1]
      by_cases f6 : a6 = 0
      · have f5 : a5 = 0 := by omega
        rw [if_pos f6, beq_iff_eq.mpr f6, beq_iff_eq.mpr f5]
        cases a2 <;> cases a3 <;> rfl
      · rw [if_neg f6, beq_eq_false_iff_ne.mpr f6]
        cases a2 <;> cases a3 <;> cases (a5 == 0) <;> rfl
    · rw [if_neg f1, beq_eq_false_iff_ne.mpr f1]; rfl
  rw [if_neg e]
  by_cases e2 : a0 = 2
  · rw [if_pos e2, if_pos e2]
    cases a2 <;> cases (a1 == 0) <;> rfl
  · rw [if_neg e2, if_neg e2, if_pos (show a0 = 3 by omega)]
theorem rword (a0 a1 : Int) (a2 a3 : Bool) (a4 a5 a6 : Int) (h0 : 0 ≤ a0 ∧ a0 ≤ 255) (h1 : 0 ≤ a1 ∧ a1 ≤ 255) (h4 : 0 ≤ a4 ∧ a4 ≤ 255) (h5 : 0 ≤ a5 ∧ a5 ≤ 255) (h6 : 0 ≤ a6 ∧ a6 ≤ 255) : demesneref01_Word.f a0 a1 a2 a3 a4 a5 a6 = some (Hand.wordp a0 a1 a2 a3 a4 a5 a6) := by
  have w0 := Hand.wrap_u64_at a0 (by omega) (by omega)
  have w1 := Hand.wrap_u64_at a1 (by omega) (by omega)
  have w4 := Hand.wrap_u64_at a4 (by omega) (by omega)
  have w5 := Hand.wrap_u64_at a5 (by omega) (by omega)
  have w6 := Hand.wrap_u64_at a6 (by omega) (by omega)
  have v1 := Hand.wrap_u64_at (4 * a1) (by omega) (by omega)
  have v4 := Hand.wrap_u64_at (32 * a4) (by omega) (by omega)
  have v5 := Hand.wrap_u64_at (2048 * a5) (by omega) (by omega)
  have v6 := Hand.wrap_u64_at (262144 * a6) (by omega) (by omega)
  have s1 := Hand.wrap_u64_at (a0 + 4 * a1) (by omega) (by omega)
  have s4 := Hand.wrap_u64_at (a0 + 4 * a1 + 32 * a4) (by omega) (by omega)
  have s5 := Hand.wrap_u64_at (a0 + 4 * a1 + 32 * a4 + 2048 * a5) (by omega) (by omega)
  have s6 := Hand.wrap_u64_at (a0 + 4 * a1 + 32 * a4 + 2048 * a5 + 262144 * a6) (by omega) (by omega)
  have s8 := Hand.wrap_u64_at (a0 + 4 * a1 + 32 * a4 + 2048 * a5 + 262144 * a6 + 8) (by omega) (by omega)
  have sG := Hand.wrap_u64_at (a0 + 4 * a1 + 32 * a4 + 2048 * a5 + 262144 * a6 + 16) (by omega) (by omega)
  have sB := Hand.wrap_u64_at (a0 + 4 * a1 + 32 * a4 + 2048 * a5 + 262144 * a6 + 8 + 16) (by omega) (by omega)
  unfold demesneref01_Word.f Hand.wordp Hand.bit
  simp only [w0, w1, w4, w5, w6, v1, v4, v5, v6, s1, s4, s5, s6, s8, sG, sB]
  cases a2 <;> cases a3 <;> simp
def Pure : Prop := ∀ (a0 a1 : Int) (a2 a3 : Bool) (a4 a5 a6 : Int), (Lit.int .u8 a0).wf = true → (Lit.int .u8 a1).wf = true → (Lit.int .u8 a4).wf = true → (Lit.int .u8 a5).wf = true → (Lit.int .u8 a6).wf = true → ∃ k, demesnelaw01_WordPuts.f k a0 a1 a2 a3 a4 a5 a6 = some true
theorem WordPuts : Pure := by
  intro a0 a1 a2 a3 a4 a5 a6 w0 w1 w4 w5 w6
  have b0 := bounds_u8 w0
  have b1 := bounds_u8 w1
  have b4 := bounds_u8 w4
  have b5 := bounds_u8 w5
  have b6 := bounds_u8 w6
  refine ⟨1, ?_⟩
  unfold demesnelaw01_WordPuts.f demesnelaw01_Of.f word_Put.f
  rw [Option.bind_some, rmay _ _ _ _ _ _ _ (by omega) (by omega)]
  by_cases hm : Hand.mayp a0 a1 a2 a3 a4 a5 a6 = true
  · rw [Hand.putp_ok hm (by omega), Option.bind_some, Option.bind_some, if_pos hm, rword _ _ _ _ _ _ _ b0 b1 b4 b5 b6, Option.bind_some, if_pos rfl, if_pos rfl, Option.bind_some]
    unfold word_Head_Live.f
    rw [Option.bind_some, if_pos (beq_iff_eq.mpr (by rw [decide_eq_decide]; omega)), wk]
    rfl
  · have hf : Hand.mayp a0 a1 a2 a3 a4 a5 a6 = false := by simpa using hm
    rw [Hand.putp_bad hf, Option.bind_some, Option.bind_some, if_neg hm, if_pos rfl, if_pos rfl, wk]
    rfl
end Go.Proofs.Ytgjgdgdckmgfmaa.PureWordPuts
