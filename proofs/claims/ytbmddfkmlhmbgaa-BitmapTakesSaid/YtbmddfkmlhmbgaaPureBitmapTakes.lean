/- The pure law of BitmapTakes: for any map, block and run the statement's function, as the print tells it, answers true. No condition. -/
import Derived.Test.YtbmddfkmlhmbgaaPBitmapTakesx2
import Derived.OpenShut
namespace Go.Proofs.Ytbmddfkmlhmbgaa.Pure
open Go Go.RowKit Go.Proofs.Ytbmddfkmlhmbgaa Go.Proofs.Ytbmddfkmlhmbgaa.PBitmapTakes Go.Proofs.YtbmddfkmlhmbgaaW.PrintWords Go.Proofs.YtbmddfkmlhmbgaaW.PrintLast
theorem wk : demesnelaw04_wakes.f = some true := by decide +kernel
theorem take_eq (x : Nat) (hx : x < 2 ^ 64) (a n : Int) : ∃ r, bitmap_Take.f (x : Int) a n = some (r, Hand.isP (x : Int) a n true) ∧ (Hand.isP (x : Int) a n true = false → r = (x : Int)) ∧ (Hand.isP (x : Int) a n true = true → demesneref04_With.f (x : Int) a n false = some r) := by
  by_cases c : n < 1 ∨ n > 3 ∨ a < 0 ∨ a > 63 ∨ a + n > 64
  · refine ⟨(x : Int), ?_, fun _ => rfl, ?_⟩
    · unfold bitmap_Take.f
      rw [mask_out a n c, Option.bind_some, isP_out _ _ _ _ c, if_neg (by decide)]
    · rw [isP_out _ _ _ _ c]; intro h; cases h
  · obtain ⟨a, rfl⟩ := Int.eq_ofNat_of_zero_le (show 0 ≤ a by omega)
    obtain ⟨n, rfl⟩ := Int.eq_ofNat_of_zero_le (show 0 ≤ n by omega)
    have hm := mask_in a n (by omega) (by omega) (by omega)
    have hand := Hand.and_n x _ hx (Hand.maskN_lt a n (by omega))
    have hisP := isP_in x a n (by omega) (by omega) (by omega)
    have hword := Hand.take_word x a n hx (by omega)
    unfold bitmap_Take.f demesneref04_With.f
    rw [hm, Option.bind_some, if_pos rfl, hand, hisP]
    by_cases e : x &&& Hand.maskN a n = Hand.maskN a n
    · refine ⟨bits .andNot .u64 (x : Int) (Hand.maskN a n : Int), ?_, ?_, ?_⟩
      · rw [if_pos (show ((x &&& Hand.maskN a n : Nat) : Int) = (Hand.maskN a n : Int) by rw [e]), beq_iff_eq.mpr e]
      · intro h; rw [beq_iff_eq.mpr e] at h; cases h
      · intro _
        rw [if_pos (by omega), Int.toNat_natCast, Int.toNat_natCast, hword]
    · refine ⟨(x : Int), ?_, fun _ => rfl, ?_⟩
      · rw [if_neg (show ¬ ((x &&& Hand.maskN a n : Nat) : Int) = (Hand.maskN a n : Int) from fun h => e (by exact_mod_cast h)), beq_eq_false_iff_ne.mpr e]
      · intro h; rw [beq_eq_false_iff_ne.mpr e] at h; cases h
theorem give_eq (x : Nat) (hx : x < 2 ^ 64) (a n : Int) : ∃ r, bitmap_Give.f (x : Int) a n = some (r, Hand.isP (x : Int) a n false) ∧ (Hand.isP (x : Int) a n false = false → r = (x : Int)) ∧ (Hand.isP (x : Int) a n false = true → demesneref04_With.f (x : Int) a n true = some r) := by
  by_cases c : n < 1 ∨ n > 3 ∨ a < 0 ∨ a > 63 ∨ a + n > 64
  · refine ⟨(x : Int), ?_, fun _ => rfl, ?_⟩
    · unfold bitmap_Give.f
      rw [mask_out a n c, Option.bind_some, isP_out _ _ _ _ c, if_neg (by decide)]
    · rw [isP_out _ _ _ _ c]; intro h; cases h
  · obtain ⟨a, rfl⟩ := Int.eq_ofNat_of_zero_le (show 0 ≤ a by omega)
    obtain ⟨n, rfl⟩ := Int.eq_ofNat_of_zero_le (show 0 ≤ n by omega)
    have hm := mask_in a n (by omega) (by omega) (by omega)
    have hand := Hand.and_n x _ hx (Hand.maskN_lt a n (by omega))
    have hisP := isP_no x a n (by omega) (by omega) (by omega)
    have hword := Hand.give_word x a n hx (by omega)
    unfold bitmap_Give.f demesneref04_With.f
    rw [hm, Option.bind_some, if_pos rfl, hand, hisP]
    by_cases e : x &&& Hand.maskN a n = 0
    · refine ⟨bits .or .u64 (x : Int) (Hand.maskN a n : Int), ?_, ?_, ?_⟩
      · rw [if_pos (by exact_mod_cast e), beq_iff_eq.mpr e]
      · intro h; rw [beq_iff_eq.mpr e] at h; cases h
      · intro _
        rw [if_pos (by omega), Int.toNat_natCast, Int.toNat_natCast, hword]
    · refine ⟨(x : Int), ?_, fun _ => rfl, ?_⟩
      · rw [if_neg (by exact_mod_cast e), beq_eq_false_iff_ne.mpr e]
      · intro h; rw [beq_eq_false_iff_ne.mpr e] at h; cases h
theorem is_eq (x a n : Int) (f : Bool) (h : 0 ≤ x ∧ x < 18446744073709551616) : demesneref04_Is.f x a n f = some (Hand.isP x a n f) := by
  unfold demesneref04_Is.f; rw [if_pos h]
theorem BitmapTakes : demesnelaw04_BitmapTakes.Pure := by
  intro x a n hx _ _
  have b := bounds_u64 hx
  obtain ⟨x, rfl⟩ := Int.eq_ofNat_of_zero_le b.1
  have hx64 : x < 2 ^ 64 := by omega
  have hb : 0 ≤ (x : Int) ∧ (x : Int) < 18446744073709551616 := by omega
  obtain ⟨p, t1, t2, t3⟩ := take_eq x hx64 a n
  obtain ⟨q, g1, g2, g3⟩ := give_eq x hx64 a n
  refine ⟨1, ?_⟩
  unfold demesnelaw04_BitmapTakes.f
  rw [t1, Option.bind_some, g1, Option.bind_some, is_eq _ _ _ _ hb, Option.bind_some]
  have j0 : ∀ y : Int, p = y → demesnelaw04_BitmapTakes.j0 1 (x : Int) a n p (Hand.isP (x : Int) a n true) q (Hand.isP (x : Int) a n false) y (x : Int) = some true := by
    intro y hy
    simp only [demesnelaw04_BitmapTakes.j0]
    rw [is_eq _ _ _ _ hb, is_eq _ _ _ _ hb, Option.bind_some]
    cases hg : Hand.isP (x : Int) a n false with
    | true =>
      rw [if_pos rfl, g3 hg, Option.bind_some, if_pos hy, Option.bind_some, if_pos (by simp), if_pos rfl, Option.bind_some, if_pos (by simp), wk]
      rfl
    | false =>
      rw [if_neg (by decide), if_pos hy, Option.bind_some, if_pos (by simp), if_pos (g2 hg), Option.bind_some, if_pos (by simp), wk]
      rfl
  cases ht : Hand.isP (x : Int) a n true with
  | true =>
    rw [if_pos rfl, t3 ht, Option.bind_some]
    rw [ht] at j0
    exact j0 p rfl
  | false =>
    rw [if_neg (by decide)]
    rw [ht] at j0
    exact j0 _ (t2 ht)
end Go.Proofs.Ytbmddfkmlhmbgaa.Pure
