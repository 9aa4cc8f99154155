/- The pure law of WordBack: for any two headers and any word the statement's function, as the print tells it, answers true. No condition. -/
import Derived.Test.YtgjgdgdckmgfmaaPWordBackx3
import Derived.Test.YtgjgdgdckmgfmaaPlain
import Derived.OpenShut
namespace Go.Proofs.Ytgjgdgdckmgfmaa.PureWordBack
open Go.RowKit Go.Proofs.Ytgjgdgdckmgfmaa Go.Proofs.Ytgjgdgdckmgfmaa.PWordBack Go.Proofs.YtgjgdgdckmgfmaaW.PrintWords Go.Proofs.YtgjgdgdckmgfmaaW.PrintLast
theorem wk : demesnelaw01_wakes.f = some true := by
  unfold demesnelaw01_wakes.f word_Put.f word_Take.f word_Head_Live.f
  rw [Hand.put_wake1, Hand.put_wake2, Option.bind_some, Option.bind_some, Hand.takep_wake, Option.bind_some]
  rfl
def Pure : Prop := ∀ (a0 a1 : Int) (a2 a3 : Bool) (a4 a5 a6 : Int) (c0 c1 : Int) (c2 c3 : Bool) (c4 c5 c6 x : Int), (Lit.int .u8 a0).wf = true → (Lit.int .u8 a1).wf = true → (Lit.int .u8 a4).wf = true → (Lit.int .u8 a5).wf = true → (Lit.int .u8 a6).wf = true → (Lit.int .u8 c0).wf = true → (Lit.int .u8 c1).wf = true → (Lit.int .u8 c4).wf = true → (Lit.int .u8 c5).wf = true → (Lit.int .u8 c6).wf = true → (Lit.int .u64 x).wf = true →
  ∃ k, demesnelaw01_WordBack.f k a0 a1 a2 a3 a4 a5 a6 c0 c1 c2 c3 c4 c5 c6 x = some true
theorem j2_zero (k : Nat) (x : Int) : demesnelaw01_WordBack.j2 (k + 1) x 3 false 0 0 false false 0 0 0 = some true := by
  simp only [demesnelaw01_WordBack.j2]
  rw [if_neg (by decide), if_neg (by decide), if_pos (by decide), wk]
  rfl
theorem j1_any (k : Nat) (x : Int) (h : 0 ≤ x ∧ x < 18446744073709551616) : demesnelaw01_WordBack.j1 (k + 2) x = some true := by
  simp only [demesnelaw01_WordBack.j1]
  unfold word_Take.f word_Put.f
  rw [Hand.put_zero, Hand.takep_eq x h]
  by_cases c : Hand.mayx x = true ∧ Hand.wordx x = x
  · rw [if_pos c, Option.bind_some, Option.bind_some, if_pos rfl]
    simp only [demesnelaw01_WordBack.j2]
    have e := Hand.putp_ok c.1 (Hand.parts_nonneg x)
    have e2 := c.2
    unfold Hand.wordx at e2
    unfold word_Put.f
    rw [if_neg (by decide), if_pos trivial, e, Option.bind_some, if_pos rfl, if_pos e2, wk]
    rfl
  · rw [if_neg c, Option.bind_some, Option.bind_some, if_pos rfl]
    exact j2_zero k x
theorem j0_bad (k : Nat) (x e : Int) (he : ¬ e = 0) (h : 0 ≤ x ∧ x < 18446744073709551616) (y a0 a1 : Int) (a2 a3 : Bool) (a4 a5 a6 : Int) : demesnelaw01_WordBack.j0 (k + 3) x y e false a0 a1 a2 a3 a4 a5 a6 = some true := by
  simp only [demesnelaw01_WordBack.j0]
  rw [if_neg (by decide), if_neg he]
  exact j1_any k x h
theorem j0_ok (k : Nat) (x : Int) (h : 0 ≤ x ∧ x < 18446744073709551616) {a0 a1 : Int} {a2 a3 : Bool} {a4 a5 a6 : Int} (hm : Hand.mayp a0 a1 a2 a3 a4 a5 a6 = true) (z : 0 ≤ a0 ∧ 0 ≤ a1 ∧ 0 ≤ a4 ∧ 0 ≤ a5 ∧ 0 ≤ a6) : demesnelaw01_WordBack.j0 (k + 3) x (Hand.wordp a0 a1 a2 a3 a4 a5 a6) 0 false a0 a1 a2 a3 a4 a5 a6 = some true := by
  simp only [demesnelaw01_WordBack.j0]
  unfold word_Take.f
  rw [if_neg (by decide), if_pos trivial, Hand.takep_word hm z, Option.bind_some, if_pos rfl, if_neg (by simp)]
  exact j1_any k x h
theorem WordBack : Pure := by
  intro a0 a1 a2 a3 a4 a5 a6 c0 c1 c2 c3 c4 c5 c6 x w0 w1 w4 w5 w6 v0 v1 v4 v5 v6 hx
  have b0 := bounds_u8 w0
  have b1 := bounds_u8 w1
  have b4 := bounds_u8 w4
  have b5 := bounds_u8 w5
  have b6 := bounds_u8 w6
  have d0 := bounds_u8 v0
  have d1 := bounds_u8 v1
  have d4 := bounds_u8 v4
  have d5 := bounds_u8 v5
  have d6 := bounds_u8 v6
  have bx := bounds_u64 hx
  refine ⟨3, ?_⟩
  unfold demesnelaw01_WordBack.f word_Put.f
  by_cases hm : Hand.mayp a0 a1 a2 a3 a4 a5 a6 = true
  · have za : 0 ≤ a0 ∧ 0 ≤ a1 ∧ 0 ≤ a4 ∧ 0 ≤ a5 ∧ 0 ≤ a6 := by omega
    rw [Hand.putp_ok hm za, Option.bind_some]
    by_cases hn : Hand.mayp c0 c1 c2 c3 c4 c5 c6 = true
    · have zc : 0 ≤ c0 ∧ 0 ≤ c1 ∧ 0 ≤ c4 ∧ 0 ≤ c5 ∧ 0 ≤ c6 := by omega
      rw [Hand.putp_ok hn zc, Option.bind_some, if_pos rfl, if_pos rfl]
      have e : ((Hand.wordp a0 a1 a2 a3 a4 a5 a6 == Hand.wordp c0 c1 c2 c3 c4 c5 c6) != (a0 == c0 && (a1 == c1 && (a2 == c2 && (a3 == c3 && (a4 == c4 && (a5 == c5 && (a6 == c6)))))))) = false := by
        rw [bne_eq_false_iff_eq]
        by_cases hw : Hand.wordp a0 a1 a2 a3 a4 a5 a6 = Hand.wordp c0 c1 c2 c3 c4 c5 c6
        · have t := Hand.takep_word hm za
          rw [hw, Hand.takep_word hn zc] at t
          simp only [Option.some.injEq, Prod.mk.injEq] at t
          obtain ⟨rfl, rfl, rfl, rfl, rfl, rfl, rfl, _⟩ := t
          simp
        · rw [beq_eq_false_iff_ne.mpr hw]
          symm
          rw [Bool.eq_false_iff]
          intro t
          simp only [Bool.and_eq_true, beq_iff_eq] at t
          obtain ⟨rfl, rfl, rfl, rfl, rfl, rfl, rfl⟩ := t
          exact hw rfl
      rw [e]
      exact j0_ok 0 x (by omega) hm za
    · have hf : Hand.mayp c0 c1 c2 c3 c4 c5 c6 = false := by simpa using hn
      rw [Hand.putp_bad hf, Option.bind_some, if_pos rfl, if_neg (by decide)]
      exact j0_ok 0 x (by omega) hm za
  · have hf : Hand.mayp a0 a1 a2 a3 a4 a5 a6 = false := by simpa using hm
    rw [Hand.putp_bad hf, Option.bind_some]
    by_cases hn : Hand.mayp c0 c1 c2 c3 c4 c5 c6 = true
    · rw [Hand.putp_ok hn (by omega), Option.bind_some, if_neg (by decide)]
      exact j0_bad 0 x 2 (by decide) (by omega) _ _ _ _ _ _ _ _
    · have hg : Hand.mayp c0 c1 c2 c3 c4 c5 c6 = false := by simpa using hn
      rw [Hand.putp_bad hg, Option.bind_some, if_neg (by decide)]
      exact j0_bad 0 x 2 (by decide) (by omega) _ _ _ _ _ _ _ _
end Go.Proofs.Ytgjgdgdckmgfmaa.PureWordBack
