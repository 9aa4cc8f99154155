/- The pure law of TablePuts: for any entry the statement's function, as the print tells it, answers true. No condition. -/
import Derived.Test.YtdnljkjmcidlmaaPTablePutsx2
import Derived.Test.YtdnljkjmcidlmaaPlain
import Derived.OpenShut
namespace Go.Proofs.Ytdnljkjmcidlmaa.PureTablePuts
open Go.RowKit Go.Proofs.Ytdnljkjmcidlmaa Go.Proofs.Ytdnljkjmcidlmaa.PTablePuts Go.Proofs.YtdnljkjmcidlmaaW.PrintWords Go.Proofs.YtdnljkjmcidlmaaW.PrintLast
theorem wk : demesnelaw05_wakes.f = some true := by
  unfold demesnelaw05_wakes.f table_Put.f table_Take.f
  rw [Hand.put_wake1, Hand.put_wake2, Option.bind_some, Option.bind_some, Hand.takep_wake, Option.bind_some]
  decide +kernel
theorem rj0 (a0 a1 a2 a3 : Int) : demesneref05_May.j0 2 true a0 a1 a2 a3 = some false := by
  simp only [demesneref05_May.j0]; rfl
theorem pos_eq (a : Int) (h : 0 ≤ a) : decide (a > 0) = !(a == 0) := by
  by_cases c : a = 0
  · subst c; rfl
  · rw [beq_eq_false_iff_ne.mpr c, decide_eq_true (by omega)]; rfl
theorem rmay_in (a0 a1 a2 a3 : Int) (h0 : 0 ≤ a0 ∧ a0 ≤ 5) (h1 : 0 ≤ a1) (h2 : 0 ≤ a2) : demesneref05_May.j0 2 false a0 a1 a2 a3 = some (if (a0 = 2 ∨ a0 = 5) ∧ a2 = 0 then false else
    (a0 == 1 || a1 == 0) && ((a0 == 2 || (a0 == 5 || a2 == 0)) && (a0 == 1 || (a0 == 2 || (a0 == 4 || (a0 == 5 || a3 == 0)))))) := by
  simp only [demesneref05_May.j0, demesneref05_May.j1]
  rw [pos_eq a1 h1, pos_eq a2 h2]
  rcases (by omega : a0 = 0 ∨ a0 = 1 ∨ a0 = 2 ∨ a0 = 3 ∨ a0 = 4 ∨ a0 = 5) with rfl | rfl | rfl | rfl | rfl | rfl
  all_goals
    by_cases z1 : a1 = 0 <;> by_cases z2 : a2 = 0 <;> simp [z1, z2]
theorem rmay (a0 a1 a2 a3 : Int) (h0 : 0 ≤ a0) (h1 : 0 ≤ a1) (h2 : 0 ≤ a2) : demesneref05_May.f 2 a0 a1 a2 a3 = some (Hand.mayp a0 a1 a2 a3) := by
  unfold demesneref05_May.f Hand.mayp
  by_cases c0 : a0 > 5
  · rw [if_pos c0, rj0, if_pos (Or.inl c0)]
  rw [if_neg c0]
  by_cases c1 : a1 > 3
  · rw [if_pos c1, rj0, if_pos (Or.inr (Or.inl (by omega)))]
  rw [if_neg c1]
  by_cases c3 : a3 > 63
  · rw [if_pos c3, rj0, if_pos (Or.inr (Or.inr (Or.inl (by omega))))]
  rw [if_neg c3]
  by_cases c2 : a2 > 3
  · rw [decide_eq_true c2, rj0, if_pos (Or.inr (Or.inr (Or.inr c2)))]
  rw [decide_eq_false c2, if_neg (show ¬ (5 < a0 ∨ 4 ≤ a1 ∨ 64 ≤ a3 ∨ 3 < a2) by omega)]
  exact rmay_in a0 a1 a2 a3 (by omega) h1 h2
theorem rword (a0 a1 a2 a3 : Int) (h0 : 0 ≤ a0 ∧ a0 ≤ 255) (h1 : 0 ≤ a1 ∧ a1 ≤ 255) (h2 : 0 ≤ a2 ∧ a2 ≤ 255) (h3 : 0 ≤ a3 ∧ a3 ≤ 255) : demesneref05_Word.f a0 a1 a2 a3 = some (Hand.wordp a0 a1 a2 a3) := by
  have w0 := Hand.wrap_u64_at a0 (by omega) (by omega)
  have w1 := Hand.wrap_u64_at a1 (by omega) (by omega)
  have w2 := Hand.wrap_u64_at a2 (by omega) (by omega)
  have w3 := Hand.wrap_u64_at a3 (by omega) (by omega)
  have v1 := Hand.wrap_u64_at (8 * a1) (by omega) (by omega)
  have v2 := Hand.wrap_u64_at (32 * a2) (by omega) (by omega)
  have v3 := Hand.wrap_u64_at (128 * a3) (by omega) (by omega)
  have s1 := Hand.wrap_u64_at (a0 + 8 * a1) (by omega) (by omega)
  have s2 := Hand.wrap_u64_at (a0 + 8 * a1 + 32 * a2) (by omega) (by omega)
  have s3 := Hand.wrap_u64_at (a0 + 8 * a1 + 32 * a2 + 128 * a3) (by omega) (by omega)
  unfold demesneref05_Word.f Hand.wordp
  simp only [w0, w1, w2, w3, v1, v2, v3, s1, s2, s3]
def Pure : Prop := ∀ (a0 a1 a2 a3 : Int), (Lit.int .u8 a0).wf = true → (Lit.int .u8 a1).wf = true → (Lit.int .u8 a2).wf = true → (Lit.int .u8 a3).wf = true → ∃ k, demesnelaw05_TablePuts.f k a0 a1 a2 a3 = some true
theorem wr (x : Int) (h : 0 ≤ x ∧ x ≤ 255) : wrap64 x = x := by unfold wrap64; omega
theorem j1_eq (p q n a0 a1 a2 a3 : Int) (hb : table_Entry_Blocks.f a0 a1 a2 a3 = some n) (hp : Hand.putp a0 a1 a2 a3 = some (p, q)) (b0 : 0 ≤ a0 ∧ a0 ≤ 255) (b1 : 0 ≤ a1 ∧ a1 ≤ 255) (b2 : 0 ≤ a2 ∧ a2 ≤ 255) (b3 : 0 ≤ a3 ∧ a3 ≤ 255) : demesnelaw05_TablePuts.j1 3 p q n a0 a1 a2 a3 = some true := by
  simp only [demesnelaw05_TablePuts.j1]
  unfold demesnelaw05_of.f
  rw [Option.bind_some, hb, Option.bind_some, if_pos rfl, rmay _ _ _ _ b0.1 b1.1 b2.1, Option.bind_some]
  by_cases hm : Hand.mayp a0 a1 a2 a3 = true
  · rw [Hand.putp_ok hm (by omega)] at hp
    simp only [Option.some.injEq, Prod.mk.injEq] at hp
    obtain ⟨rfl, rfl⟩ := hp
    rw [if_pos hm, rword _ _ _ _ b0 b1 b2 b3, Option.bind_some, if_pos rfl, if_pos rfl, wk]
    rfl
  · have hf : Hand.mayp a0 a1 a2 a3 = false := by simpa using hm
    rw [Hand.putp_bad hf] at hp
    simp only [Option.some.injEq, Prod.mk.injEq] at hp
    obtain ⟨rfl, rfl⟩ := hp
    rw [if_neg hm, if_pos rfl, if_pos rfl, wk]
    rfl
theorem j0_yes (p q n a0 a1 a2 a3 : Int) : demesnelaw05_TablePuts.j0 4 p q n true a0 a1 a2 a3 = demesnelaw05_TablePuts.j1 3 p q (wrap64 a2) a0 a1 a2 a3 := by
  simp only [demesnelaw05_TablePuts.j0]; rfl
theorem j0_no (p q n a0 a1 a2 a3 : Int) : demesnelaw05_TablePuts.j0 4 p q n false a0 a1 a2 a3 = demesnelaw05_TablePuts.j1 3 p q n a0 a1 a2 a3 := by
  simp only [demesnelaw05_TablePuts.j0]; rfl
theorem TablePuts : Pure := by
  intro a0 a1 a2 a3 w0 w1 w2 w3
  have b0 := bounds_u8 w0
  have b1 := bounds_u8 w1
  have b2 := bounds_u8 w2
  have b3 := bounds_u8 w3
  refine ⟨4, ?_⟩
  obtain ⟨⟨p, q⟩, hp⟩ : ∃ r, Hand.putp a0 a1 a2 a3 = some r := by
    by_cases hm : Hand.mayp a0 a1 a2 a3 = true
    · exact ⟨_, Hand.putp_ok hm (by omega)⟩
    · exact ⟨_, Hand.putp_bad (by simpa using hm)⟩
  unfold demesnelaw05_TablePuts.f demesnelaw05_of.f table_Put.f
  rw [Option.bind_some, hp, Option.bind_some]
  by_cases c2 : a0 = 2
  · rw [if_pos c2, j0_yes]
    exact j1_eq p q _ a0 a1 a2 a3 (by unfold table_Entry_Blocks.f; rw [if_pos c2]) hp b0 b1 b2 b3
  rw [if_neg c2]
  by_cases c5 : a0 = 5
  · rw [beq_iff_eq.mpr c5, j0_yes]
    exact j1_eq p q _ a0 a1 a2 a3 (by unfold table_Entry_Blocks.f; rw [if_neg c2, if_pos c5]) hp b0 b1 b2 b3
  · rw [beq_eq_false_iff_ne.mpr c5, j0_no]
    exact j1_eq p q _ a0 a1 a2 a3 (by unfold table_Entry_Blocks.f; rw [if_neg c2, if_neg c5]) hp b0 b1 b2 b3
end Go.Proofs.Ytdnljkjmcidlmaa.PureTablePuts
