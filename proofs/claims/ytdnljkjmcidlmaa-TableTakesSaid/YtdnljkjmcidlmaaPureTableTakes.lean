/- The pure law of TableTakes: for any word the statement's function, as the print tells it, answers true. No condition. -/
import Derived.Test.YtdnljkjmcidlmaaPTableTakesx3
import Derived.Test.YtdnljkjmcidlmaaPlain
import Derived.OpenShut
namespace Go.Proofs.Ytdnljkjmcidlmaa.Pure
open Go.RowKit Go.Proofs.Ytdnljkjmcidlmaa Go.Proofs.Ytdnljkjmcidlmaa.PTableTakes Go.Proofs.YtdnljkjmcidlmaaW.PrintWords Go.Proofs.YtdnljkjmcidlmaaW.PrintLast
theorem wk : demesnelaw05_wakes.f = some true := by
  unfold demesnelaw05_wakes.f table_Put.f table_Take.f
  rw [Hand.put_wake1, Hand.put_wake2, Option.bind_some, Option.bind_some, Hand.takep_wake, Option.bind_some]
  decide +kernel
theorem rj0 (a0 a1 a2 a3 : Int) : demesneref05_May.j0 2 true a0 a1 a2 a3 = some false := by
  simp only [demesneref05_May.j0]; rfl
theorem pos_eq (a : Int) (h : 0 ≤ a) : decide (a > 0) = !(a == 0) := by
  by_cases c : a = 0
  · subst c; rfl
  · rw [beq_eq_false_iff_ne.mpr c, decide_eq_true (by omega)]; rfl
theorem rmay_in (a0 a1 a2 a3 : Int) (h0 : 0 ≤ a0 ∧ a0 ≤ 5) (h1 : 0 ≤ a1) (h2 : 0 ≤ a2) : demesneref05_May.j0 2 false a0 a1 a2 a3 = some (if (a0 = 2 ∨ a0 = 5) ∧ a2 = 0 then false else
    (a0 == 1 || a1 == 0) && ((a0 == 2 || (a0 == 5 || a2 == 0)) && (a0 == 1 || (a0 == 2 || (a0 == 4 || (a0 == 5 || a3 == 0)))))) := by
  simp only [demesneref05_May.j0, demesneref05_May.j1]
  rw [pos_eq a1 h1, pos_eq a2 h2]
  rcases (by omega : a0 = 0 ∨ a0 = 1 ∨ a0 = 2 ∨ a0 = 3 ∨ a0 = 4 ∨ a0 = 5) with rfl | rfl | rfl | rfl | rfl | rfl
  all_goals
    by_cases z1 : a1 = 0 <;> by_cases z2 : a2 = 0 <;> simp [z1, z2]
theorem rmay (a0 a1 a2 a3 : Int) (h0 : 0 ≤ a0) (h1 : 0 ≤ a1) (h2 : 0 ≤ a2) : demesneref05_May.f 2 a0 a1 a2 a3 = some (Hand.mayp a0 a1 a2 a3) := by
  unfold demesneref05_May.f Hand.mayp
  by_cases c0 : a0 > 5
  · rw [if_pos c0, rj0, if_pos (Or.inl c0)]
  rw [if_neg c0]
  by_cases c1 : a1 > 3
  · rw [if_pos c1, rj0, if_pos (Or.inr (Or.inl (by omega)))]
  rw [if_neg c1]
  by_cases c3 : a3 > 63
  · rw [if_pos c3, rj0, if_pos (Or.inr (Or.inr (Or.inl (by omega))))]
  rw [if_neg c3]
  by_cases c2 : a2 > 3
  · rw [decide_eq_true c2, rj0, if_pos (Or.inr (Or.inr (Or.inr c2)))]
  rw [decide_eq_false c2, if_neg (show ¬ (5 < a0 ∨ 4 ≤ a1 ∨ 64 ≤ a3 ∨ 3 < a2) by omega)]
  exact rmay_in a0 a1 a2 a3 (by omega) h1 h2
theorem rword (a0 a1 a2 a3 : Int) (h0 : 0 ≤ a0 ∧ a0 ≤ 255) (h1 : 0 ≤ a1 ∧ a1 ≤ 255) (h2 : 0 ≤ a2 ∧ a2 ≤ 255) (h3 : 0 ≤ a3 ∧ a3 ≤ 255) : demesneref05_Word.f a0 a1 a2 a3 = some (Hand.wordp a0 a1 a2 a3) := by
  have w0 := Hand.wrap_u64_at a0 (by omega) (by omega)
  have w1 := Hand.wrap_u64_at a1 (by omega) (by omega)
  have w2 := Hand.wrap_u64_at a2 (by omega) (by omega)
  have w3 := Hand.wrap_u64_at a3 (by omega) (by omega)
  have v1 := Hand.wrap_u64_at (8 * a1) (by omega) (by omega)
  have v2 := Hand.wrap_u64_at (32 * a2) (by omega) (by omega)
  have v3 := Hand.wrap_u64_at (128 * a3) (by omega) (by omega)
  have s1 := Hand.wrap_u64_at (a0 + 8 * a1) (by omega) (by omega)
  have s2 := Hand.wrap_u64_at (a0 + 8 * a1 + 32 * a2) (by omega) (by omega)
  have s3 := Hand.wrap_u64_at (a0 + 8 * a1 + 32 * a2 + 128 * a3) (by omega) (by omega)
  unfold demesneref05_Word.f Hand.wordp
  simp only [w0, w1, w2, w3, v1, v2, v3, s1, s2, s3]
theorem rtake (x : Int) (h : 0 ≤ x ∧ x < 18446744073709551616) : demesneref05_Take.f 2 x = Hand.takep x := by
  have t0 : Int.tmod x 8 % 256 = x % 8 := by rw [Int.tmod_eq_emod_of_nonneg h.1]; omega
  have t1 : Int.tmod (IntKind.u64.wrap (Int.tdiv x 8)) 4 % 256 = x / 8 % 4 := by
    rw [Int.tdiv_eq_ediv_of_nonneg h.1, Hand.wrap_u64_at _ (by omega) (by omega), Int.tmod_eq_emod_of_nonneg (by omega)]; omega
  have t2 : Int.tmod (IntKind.u64.wrap (Int.tdiv x 32)) 4 % 256 = x / 32 % 4 := by
    rw [Int.tdiv_eq_ediv_of_nonneg h.1, Hand.wrap_u64_at _ (by omega) (by omega), Int.tmod_eq_emod_of_nonneg (by omega)]; omega
  have t3 : Int.tmod (IntKind.u64.wrap (Int.tdiv x 128)) 64 % 256 = x / 128 % 64 := by
    rw [Int.tdiv_eq_ediv_of_nonneg h.1, Hand.wrap_u64_at _ (by omega) (by omega), Int.tmod_eq_emod_of_nonneg (by omega)]; omega
  unfold demesneref05_Take.f
  rw [t0, t1, t2, t3, rmay _ _ _ _ (by omega) (by omega) (by omega), Option.bind_some, rword _ _ _ _ (by omega) (by omega) (by omega) (by omega), Option.bind_some, Hand.takep_eq x h]
  by_cases hm : Hand.mayx x = true
  · have hm' := hm
    unfold Hand.mayx at hm'
    rw [if_pos hm']
    by_cases hw : Hand.wordx x = x
    · have hw' := hw
      unfold Hand.wordx at hw'
      rw [if_pos hw', if_pos ⟨hm, hw⟩]
    · have hw' := hw
      unfold Hand.wordx at hw'
      rw [if_neg hw', if_neg (fun c => hw c.2)]
  · have hm' := hm
    unfold Hand.mayx at hm'
    rw [if_neg hm', if_neg (fun c => hm c.1)]
theorem takep_some (x : Int) (h : 0 ≤ x ∧ x < 18446744073709551616) : ∃ r, Hand.takep x = some r := by
  rw [Hand.takep_eq x h]
  split
  · exact ⟨_, rfl⟩
  · exact ⟨_, rfl⟩
theorem TableTakes : demesnelaw05_TableTakes.Pure := by
  intro x hx
  have b := bounds_u64 hx
  refine ⟨2, ?_⟩
  obtain ⟨⟨r1, r2, r3, r4, r5⟩, hr⟩ := takep_some x (by omega)
  unfold demesnelaw05_TableTakes.f table_Take.f
  rw [rtake x (by omega), hr, Option.bind_some, Option.bind_some]
  unfold demesnelaw05_of.f
  rw [Option.bind_some, if_pos (by simp), if_pos rfl, wk]
  rfl
end Go.Proofs.Ytdnljkjmcidlmaa.Pure
