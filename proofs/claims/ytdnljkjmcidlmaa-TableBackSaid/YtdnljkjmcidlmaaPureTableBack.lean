/- The pure law of TableBack: for any two entries and any word the statement's function, as the print tells it, answers true. No condition. -/
import Derived.Test.YtdnljkjmcidlmaaPTableBackx2
import Derived.Test.YtdnljkjmcidlmaaPlain
import Derived.OpenShut
namespace Go.Proofs.Ytdnljkjmcidlmaa.PureTableBack
open Go.RowKit Go.Proofs.Ytdnljkjmcidlmaa Go.Proofs.Ytdnljkjmcidlmaa.PTableBack Go.Proofs.YtdnljkjmcidlmaaW.PrintWords Go.Proofs.YtdnljkjmcidlmaaW.PrintLast
theorem wk : demesnelaw05_wakes.f = some true := by
  unfold demesnelaw05_wakes.f table_Put.f table_Take.f
  rw [Hand.put_wake1, Hand.put_wake2, Option.bind_some, Option.bind_some, Hand.takep_wake, Option.bind_some]
  decide +kernel
def Pure : Prop := ∀ (a0 a1 a2 a3 c0 c1 c2 c3 x : Int), (Lit.int .u8 a0).wf = true → (Lit.int .u8 a1).wf = true → (Lit.int .u8 a2).wf = true → (Lit.int .u8 a3).wf = true → (Lit.int .u8 c0).wf = true → (Lit.int .u8 c1).wf = true → (Lit.int .u8 c2).wf = true → (Lit.int .u8 c3).wf = true → (Lit.int .u64 x).wf = true →
  ∃ k, demesnelaw05_TableBack.f k a0 a1 a2 a3 c0 c1 c2 c3 x = some true
theorem j1_any (k : Nat) (x : Int) (h : 0 ≤ x ∧ x < 18446744073709551616) : demesnelaw05_TableBack.j1 (k + 1) x = some true := by
  simp only [demesnelaw05_TableBack.j1]
  unfold table_Take.f
  rw [Hand.takep_eq x h]
  by_cases c : Hand.mayx x = true ∧ Hand.wordx x = x
  · have e := Hand.putp_ok c.1 (Hand.parts_nonneg x)
    have e2 := c.2
    unfold Hand.wordx at e2
    unfold table_Put.f
    rw [if_pos c, Option.bind_some, if_pos rfl, e, Option.bind_some, if_pos rfl, if_pos e2, wk]
    rfl
  · have hx : ¬ x = 0 := fun e => c (by subst e; exact Hand.mayx_zero)
    rw [if_neg c, Option.bind_some, if_neg (by decide), if_pos (by decide), if_neg hx, wk]
    rfl
theorem j0_bad (k : Nat) (x e : Int) (he : ¬ e = 0) (h : 0 ≤ x ∧ x < 18446744073709551616) (y a0 a1 a2 a3 : Int) : demesnelaw05_TableBack.j0 (k + 2) x y e false a0 a1 a2 a3 = some true := by
  simp only [demesnelaw05_TableBack.j0]
  rw [if_neg (by decide), if_neg he]
  exact j1_any k x h
theorem blocks_bd {a0 a1 a2 a3 : Int} (hm : Hand.mayp a0 a1 a2 a3 = true) (h2 : 0 ≤ a2) : ∃ n, table_Entry_Blocks.f a0 a1 a2 a3 = some n ∧ 1 ≤ n ∧ n ≤ 3 := by
  have r := Hand.mayp_run hm h2
  unfold table_Entry_Blocks.f
  by_cases c2 : a0 = 2
  · have := r (.inl c2)
    rw [if_pos c2]
    exact ⟨_, rfl, by unfold wrap64; omega, by unfold wrap64; omega⟩
  by_cases c5 : a0 = 5
  · have := r (.inr c5)
    rw [if_neg c2, if_pos c5]
    exact ⟨_, rfl, by unfold wrap64; omega, by unfold wrap64; omega⟩
  · rw [if_neg c2, if_neg c5]
    exact ⟨_, rfl, by decide, by decide⟩
theorem j0_ok (k : Nat) (x : Int) (h : 0 ≤ x ∧ x < 18446744073709551616) {a0 a1 a2 a3 : Int} (hm : Hand.mayp a0 a1 a2 a3 = true) (z : 0 ≤ a0 ∧ 0 ≤ a1 ∧ 0 ≤ a2 ∧ 0 ≤ a3) : demesnelaw05_TableBack.j0 (k + 2) x (Hand.wordp a0 a1 a2 a3) 0 false a0 a1 a2 a3 = some true := by
  obtain ⟨n, hn, n1, n2⟩ := blocks_bd hm z.2.2.1
  simp only [demesnelaw05_TableBack.j0]
  unfold table_Take.f
  rw [if_neg (by decide), if_pos trivial, Hand.takep_word hm z, Option.bind_some, if_pos rfl, if_neg (by simp), hn, Option.bind_some, if_neg (by omega), Option.bind_some, if_neg (by omega)]
  exact j1_any k x h
theorem TableBack : Pure := by
  intro a0 a1 a2 a3 c0 c1 c2 c3 x w0 w1 w2 w3 v0 v1 v2 v3 hx
  have b0 := bounds_u8 w0
  have b1 := bounds_u8 w1
  have b2 := bounds_u8 w2
  have b3 := bounds_u8 w3
  have d0 := bounds_u8 v0
  have d1 := bounds_u8 v1
  have d2 := bounds_u8 v2
  have d3 := bounds_u8 v3
  have bx := bounds_u64 hx
  refine ⟨2, ?_⟩
  unfold demesnelaw05_TableBack.f table_Put.f
  by_cases hm : Hand.mayp a0 a1 a2 a3 = true
  · have za : 0 ≤ a0 ∧ 0 ≤ a1 ∧ 0 ≤ a2 ∧ 0 ≤ a3 := by omega
    rw [Hand.putp_ok hm za, Option.bind_some]
    by_cases hn : Hand.mayp c0 c1 c2 c3 = true
    · have zc : 0 ≤ c0 ∧ 0 ≤ c1 ∧ 0 ≤ c2 ∧ 0 ≤ c3 := by omega
      rw [Hand.putp_ok hn zc, Option.bind_some, if_pos rfl, if_pos rfl]
      have e : ((Hand.wordp a0 a1 a2 a3 == Hand.wordp c0 c1 c2 c3) != (a0 == c0 && (a1 == c1 && (a2 == c2 && (a3 == c3))))) = false := by
        rw [bne_eq_false_iff_eq]
        by_cases hw : Hand.wordp a0 a1 a2 a3 = Hand.wordp c0 c1 c2 c3
        · have t := Hand.takep_word hm za
          rw [hw, Hand.takep_word hn zc] at t
          simp only [Option.some.injEq, Prod.mk.injEq] at t
          obtain ⟨rfl, rfl, rfl, rfl, _⟩ := t
          simp
        · rw [beq_eq_false_iff_ne.mpr hw]
          symm
          rw [Bool.eq_false_iff]
          intro t
          simp only [Bool.and_eq_true, beq_iff_eq] at t
          obtain ⟨rfl, rfl, rfl, rfl⟩ := t
          exact hw rfl
      rw [e]
      exact j0_ok 0 x (by omega) hm za
    · have hf : Hand.mayp c0 c1 c2 c3 = false := by simpa using hn
      rw [Hand.putp_bad hf, Option.bind_some, if_pos rfl, if_neg (by decide)]
      exact j0_ok 0 x (by omega) hm za
  · have hf : Hand.mayp a0 a1 a2 a3 = false := by simpa using hm
    rw [Hand.putp_bad hf, Option.bind_some]
    by_cases hn : Hand.mayp c0 c1 c2 c3 = true
    · rw [Hand.putp_ok hn (by omega), Option.bind_some, if_neg (by decide)]
      exact j0_bad 0 x 2 (by decide) (by omega) _ _ _ _ _
    · have hg : Hand.mayp c0 c1 c2 c3 = false := by simpa using hn
      rw [Hand.putp_bad hg, Option.bind_some, if_neg (by decide)]
      exact j0_bad 0 x 2 (by decide) (by omega) _ _ _ _ _
end Go.Proofs.Ytdnljkjmcidlmaa.PureTableBack
